/- For all items, boxes and capacities the law FnExactIsValidArchive answers true: the program's IsValidArchive gives what the reference's gives, and the arguments stay as they were. No condition beyond the row's own.
This file (part 4 of 4) holds what the proof needs: plain functions with rounds and contracts written by programs of this work over the translation, and the lemmas. -/
import Derived.Test.YtdhndojmekcjhaaZFnExactIsValidArchive1
import Derived.Test.YtdhndojmekcjhaaZFnExactIsValidArchive2
import Derived.Test.YtdhndojmekcjhaaZFnExactIsValidArchive3
import Derived.Test.YtdhndojmekcjhaaWWords
import Derived.ChangeArms
import Derived.DataReads
import Derived.Deep.Slices
import Derived.ChangeOld
import Derived.OpenShut
import Derived.Test.YtdhndojmekcjhaaRows
import Derived.WalkKit
import Derived.ProofKit
import Derived.ShutString
import Derived.Below
import Derived.SizedLaws
import Derived.Lib.SmallJoins
namespace Go.Proofs.Ytdhndojmekcjhaa.X
open Go.RowKit Go.Proofs.YtdhndojmekcjhaaW.PrintWords Go.Proofs.YtdhndojmekcjhaaW.PrintLast Go.Proofs.YtdhndojmekcjhaaW.PrintMore
attribute [local go_sem] max2_int min2_int max_two min_two max_three min_three max_four min_four   -- for this text's walks alone
set_option linter.unusedVariables false
set_option linter.unusedSimpArgs false

/-! ### laws_FnExactIsValidArchive: function 6 -/
def laws_FnExactIsValidArchive.f (k : Nat) (l0 : List (S77)) (l1 : List (S68)) (a2 : Int) : Option (Bool) := (laws_szItemS.f l0 1048576).bind fun t101 => (if t101 < 0 then (some true) else ((laws_szArchiveBoxS.f k l1 t101).bind fun t102 => (if t102 < 0 then (some true) else ((laws_toItemS.f k l0).bind fun t103 => ((laws_toArchiveBoxS.f k l1).bind fun t106 => ((spec_IsValidArchive.f k t103 t106 a2).bind fun t109 => ((laws_toItemS.f k l0).bind fun t110 => ((laws_toArchiveBoxS.f k l1).bind fun t113 => ((impl_IsValidArchive.f k t110 t113 a2).bind fun t116 => (if (t116 != t109) = true then (some false) else ((laws_toItemS.f k l0).bind fun t117 => ((laws_eqItemS.f k t110 t117).bind fun t120 => (if t120 = true then ((laws_toArchiveBoxS.f k l1).bind fun t121 => ((laws_eqArchiveBoxS.f k t113 t121).bind fun t124 => (if t124 = true then (some true) else (some false)))) else (some false))))))))))))))
theorem laws_FnExactIsValidArchive.mono : ∀ a0 a1 a2 k, LeO (laws_FnExactIsValidArchive.f k a0 a1 a2) (laws_FnExactIsValidArchive.f (k + 1) a0 a1 a2) := by
 intro a0 a1 a2 k
 unfold laws_FnExactIsValidArchive.f
 repeat' first
   | (with_reducible exact impl_IsValidArchive.mono _ _ _ _)
   | (with_reducible exact laws_eqArchiveBoxS.mono _ _ _)
   | (with_reducible exact laws_eqItemS.mono _ _ _)
   | (with_reducible exact laws_szArchiveBoxS.mono _ _ _)
   | (with_reducible exact laws_toArchiveBoxS.mono _ _)
   | (with_reducible exact laws_toItemS.mono _ _)
   | (with_reducible exact spec_IsValidArchive.mono _ _ _ _)
   | (with_reducible exact LeO.refl _)
   | (with_reducible exact LeO.none _)
   | (with_reducible refine LeO.ite ?_ ?_)
   | (with_reducible refine LeO.bind ?_ (fun _ => ?_))
   | exact impl_IsValidArchive.mono _ _ _ _
   | exact laws_eqArchiveBoxS.mono _ _ _
   | exact laws_eqItemS.mono _ _ _
   | exact laws_szArchiveBoxS.mono _ _ _
   | exact laws_toArchiveBoxS.mono _ _
   | exact laws_toItemS.mono _ _
   | exact spec_IsValidArchive.mono _ _ _ _
   | exact LeO.none _
   | refine LeO.ite ?_ ?_
   | refine LeO.bind ?_ (fun _ => ?_)
set_option maxHeartbeats 8000000 in
set_option maxRecDepth 100000 in
theorem laws_FnExactIsValidArchive.calls (k : Nat) (A0 : Option Addr) (c0 : Nat) (l0 : List (S77)) (A1 : Option Addr) (c1 : Nat) (l1 : List (S68)) (a2 : Int) (r : Bool) (w : World) (hr0 : Kd.C k77 w A0 l0.length l0) (hc0 : l0.length ≤ c0) (hr1 : Kd.C k68 w A1 l1.length l1) (hc1 : l1.length ≤ c1) (h : laws_FnExactIsValidArchive.f k l0 l1 a2 = some r) :
  Calls Try.prog 6 #[.slice A0 l0.length c0, .slice A1 l1.length c1, .int .i64 a2] w fun e w' => e = .returned (.bool r) ∧ Below w.heap.size w w' := by
 have HR0 := Aside0.mk hr0
 have HC0 := Aside0.mk hc0
 clear hr0 hc0
 have HR1 := Aside0.mk hr1
 have HC1 := Aside0.mk hc1
 clear hr1 hc1
 have HB := Aside0.mk (Below.refl w.heap.size w)
 have H : ((laws_szItemS.f l0 1048576).bind fun t101 => (if t101 < 0 then (some true) else ((laws_szArchiveBoxS.f k l1 t101).bind fun t102 => (if t102 < 0 then (some true) else ((laws_toItemS.f k l0).bind fun t103 => ((laws_toArchiveBoxS.f k l1).bind fun t106 => ((spec_IsValidArchive.f k t103 t106 a2).bind fun t109 => ((laws_toItemS.f k l0).bind fun t110 => ((laws_toArchiveBoxS.f k l1).bind fun t113 => ((impl_IsValidArchive.f k t110 t113 a2).bind fun t116 => (if (t116 != t109) = true then (some false) else ((laws_toItemS.f k l0).bind fun t117 => ((laws_eqItemS.f k t110 t117).bind fun t120 => (if t120 = true then ((laws_toArchiveBoxS.f k l1).bind fun t121 => ((laws_eqArchiveBoxS.f k t113 t121).bind fun t124 => (if t124 = true then (some true) else (some false)))) else (some false))))))))))))))) = some r := h
 clear h
 replace H := Option.bind_eq_some_iff.mp H
 obtain ⟨t101, A40, H⟩ := H
 replace H : (if t101 < 0 then (some true) else ((laws_szArchiveBoxS.f k l1 t101).bind fun t102 => (if t102 < 0 then (some true) else ((laws_toItemS.f k l0).bind fun t103 => ((laws_toArchiveBoxS.f k l1).bind fun t106 => ((spec_IsValidArchive.f k t103 t106 a2).bind fun t109 => ((laws_toItemS.f k l0).bind fun t110 => ((laws_toArchiveBoxS.f k l1).bind fun t113 => ((impl_IsValidArchive.f k t110 t113 a2).bind fun t116 => (if (t116 != t109) = true then (some false) else ((laws_toItemS.f k l0).bind fun t117 => ((laws_eqItemS.f k t110 t117).bind fun t120 => (if t120 = true then ((laws_toArchiveBoxS.f k l1).bind fun t121 => ((laws_eqArchiveBoxS.f k t113 t121).bind fun t124 => (if t124 = true then (some true) else (some false)))) else (some false)))))))))))))) = some r := H
 have A4 := Aside0.mk A40
 clear A40
 by_cases c5 : t101 < 0
 ·rw [if_pos c5] at H
  have c5b0 : decide (t101 < 0) = true := decide_eq_true c5
  clear c5
  obtain rfl := Option.some.inj H
  go_enter Try.func6, Try.ntmps6
  go_wp2_with (first | ((with_reducible refine gate_callee (f := 19) rfl ?_); refine goesL_ (some 14) rfl rfl Try.func19 (by kernel_rfl) rfl #[.slice A0 l0.length c0, .int .i64 1048576] rfl (by (try simp only [aM1, aM2, aM3]); first | done | rfl | (simp only [List.length_drop, List.length_take]; rfl)) ?_; (with_reducible refine (laws_szItemS.calls _ _ l0 1048576 t101 _ ?side1 ?side2 A4.out).mono ?_); (case side1 => repeat (first | exact HR0.out | (with_reducible refine Kd.C_alloc ?_ _) | (with_reducible refine Kd.C_drewN ?_ _) | (with_reducible refine Kd.C_drew ?_))); (case side2 => exact HC0.out); rintro e w' ⟨rfl, ⟨nd, rfl⟩⟩; refine ⟨_, rfl, ?_⟩))
  go_ret
  exact ⟨by first | rfl | (simp [errW_none, errW_some] <;> rfl) | (simp [*, errW_none, errW_some] <;> rfl), by repeat (first | (with_reducible first | exact HB.out | apply below_alloc | apply pw_below_drewN | apply below_drew1) | exact HB.out)⟩
 ·rw [if_neg c5] at H
  have c5b0 : decide (t101 < 0) = false := decide_eq_false c5
  clear c5
  replace H := Option.bind_eq_some_iff.mp H
  obtain ⟨t102, A60, H⟩ := H
  replace H : (if t102 < 0 then (some true) else ((laws_toItemS.f k l0).bind fun t103 => ((laws_toArchiveBoxS.f k l1).bind fun t106 => ((spec_IsValidArchive.f k t103 t106 a2).bind fun t109 => ((laws_toItemS.f k l0).bind fun t110 => ((laws_toArchiveBoxS.f k l1).bind fun t113 => ((impl_IsValidArchive.f k t110 t113 a2).bind fun t116 => (if (t116 != t109) = true then (some false) else ((laws_toItemS.f k l0).bind fun t117 => ((laws_eqItemS.f k t110 t117).bind fun t120 => (if t120 = true then ((laws_toArchiveBoxS.f k l1).bind fun t121 => ((laws_eqArchiveBoxS.f k t113 t121).bind fun t124 => (if t124 = true then (some true) else (some false)))) else (some false)))))))))))) = some r := H
  have A6 := Aside0.mk A60
  clear A60
  by_cases c7 : t102 < 0
  ·rw [if_pos c7] at H
   have c7b0 : decide (t102 < 0) = true := decide_eq_true c7
   clear c7
   obtain rfl := Option.some.inj H
   go_enter Try.func6, Try.ntmps6
   go_wp2_with (first | ((with_reducible refine gate_callee (f := 19) rfl ?_); refine goesL_ (some 14) rfl rfl Try.func19 (by kernel_rfl) rfl #[.slice A0 l0.length c0, .int .i64 1048576] rfl (by (try simp only [aM1, aM2, aM3]); first | done | rfl | (simp only [List.length_drop, List.length_take]; rfl)) ?_; (with_reducible refine (laws_szItemS.calls _ _ l0 1048576 t101 _ ?side1 ?side2 A4.out).mono ?_); (case side1 => repeat (first | exact HR0.out | (with_reducible refine Kd.C_alloc ?_ _) | (with_reducible refine Kd.C_drewN ?_ _) | (with_reducible refine Kd.C_drew ?_))); (case side2 => exact HC0.out); rintro e w' ⟨rfl, ⟨nd, rfl⟩⟩; refine ⟨_, rfl, ?_⟩) | ((with_reducible refine gate_callee (f := 14) rfl ?_); refine goesL_ (some 19) rfl rfl Try.func14 (by kernel_rfl) rfl #[.slice A1 l1.length c1, .int .i64 t101] rfl (by (try simp only [aM1, aM2, aM3]); first | done | rfl | (simp only [List.length_drop, List.length_take]; rfl)) ?_; (with_reducible refine (laws_szArchiveBoxS.calls k _ _ l1 t101 t102 _ ?side1 ?side2 A6.out).mono ?_); (case side1 => repeat (first | exact HR1.out | (with_reducible refine Kd.C_alloc ?_ _) | (with_reducible refine Kd.C_drewN ?_ _) | (with_reducible refine Kd.C_drew ?_))); (case side2 => exact HC1.out); rintro e w8 ⟨rfl, hb⟩; refine ⟨_, rfl, ?_⟩; have n0_ := Aside0.mk (below_step (by repeat (first | (with_reducible first | exact HB.out | apply below_alloc | apply pw_below_drewN | apply below_drew1) | exact HB.out)) hb); clear HB; have HB := n0_; clear n0_; (try clear hb); (try clear hb2); (try clear hk); (try clear hi)))
   go_ret
   exact ⟨by first | rfl | (simp [errW_none, errW_some] <;> rfl) | (simp [*, errW_none, errW_some] <;> rfl), by repeat (first | (with_reducible first | exact HB.out | apply below_alloc | apply pw_below_drewN | apply below_drew1) | exact HB.out)⟩
  ·rw [if_neg c7] at H
   have c7b0 : decide (t102 < 0) = false := decide_eq_false c7
   clear c7
   replace H := Option.bind_eq_some_iff.mp H
   obtain ⟨t103, A90, H⟩ := H
   replace H : ((laws_toArchiveBoxS.f k l1).bind fun t106 => ((spec_IsValidArchive.f k t103 t106 a2).bind fun t109 => ((laws_toItemS.f k l0).bind fun t110 => ((laws_toArchiveBoxS.f k l1).bind fun t113 => ((impl_IsValidArchive.f k t110 t113 a2).bind fun t116 => (if (t116 != t109) = true then (some false) else ((laws_toItemS.f k l0).bind fun t117 => ((laws_eqItemS.f k t110 t117).bind fun t120 => (if t120 = true then ((laws_toArchiveBoxS.f k l1).bind fun t121 => ((laws_eqArchiveBoxS.f k t113 t121).bind fun t124 => (if t124 = true then (some true) else (some false)))) else (some false)))))))))) = some r := H
   have A9 := Aside0.mk A90
   clear A90
   replace H := Option.bind_eq_some_iff.mp H
   obtain ⟨t106, A100, H⟩ := H
   replace H : ((spec_IsValidArchive.f k t103 t106 a2).bind fun t109 => ((laws_toItemS.f k l0).bind fun t110 => ((laws_toArchiveBoxS.f k l1).bind fun t113 => ((impl_IsValidArchive.f k t110 t113 a2).bind fun t116 => (if (t116 != t109) = true then (some false) else ((laws_toItemS.f k l0).bind fun t117 => ((laws_eqItemS.f k t110 t117).bind fun t120 => (if t120 = true then ((laws_toArchiveBoxS.f k l1).bind fun t121 => ((laws_eqArchiveBoxS.f k t113 t121).bind fun t124 => (if t124 = true then (some true) else (some false)))) else (some false))))))))) = some r := H
   have A10 := Aside0.mk A100
   clear A100
   replace H := Option.bind_eq_some_iff.mp H
   obtain ⟨t109, A110, H⟩ := H
   replace H : ((laws_toItemS.f k l0).bind fun t110 => ((laws_toArchiveBoxS.f k l1).bind fun t113 => ((impl_IsValidArchive.f k t110 t113 a2).bind fun t116 => (if (t116 != t109) = true then (some false) else ((laws_toItemS.f k l0).bind fun t117 => ((laws_eqItemS.f k t110 t117).bind fun t120 => (if t120 = true then ((laws_toArchiveBoxS.f k l1).bind fun t121 => ((laws_eqArchiveBoxS.f k t113 t121).bind fun t124 => (if t124 = true then (some true) else (some false)))) else (some false)))))))) = some r := H
   have A11 := Aside0.mk A110
   clear A110
   replace H := Option.bind_eq_some_iff.mp H
   obtain ⟨t110, A120, H⟩ := H
   replace H : ((laws_toArchiveBoxS.f k l1).bind fun t113 => ((impl_IsValidArchive.f k t110 t113 a2).bind fun t116 => (if (t116 != t109) = true then (some false) else ((laws_toItemS.f k l0).bind fun t117 => ((laws_eqItemS.f k t110 t117).bind fun t120 => (if t120 = true then ((laws_toArchiveBoxS.f k l1).bind fun t121 => ((laws_eqArchiveBoxS.f k t113 t121).bind fun t124 => (if t124 = true then (some true) else (some false)))) else (some false))))))) = some r := H
   have A12 := Aside0.mk A120
   clear A120
   replace H := Option.bind_eq_some_iff.mp H
   obtain ⟨t113, A130, H⟩ := H
   replace H : ((impl_IsValidArchive.f k t110 t113 a2).bind fun t116 => (if (t116 != t109) = true then (some false) else ((laws_toItemS.f k l0).bind fun t117 => ((laws_eqItemS.f k t110 t117).bind fun t120 => (if t120 = true then ((laws_toArchiveBoxS.f k l1).bind fun t121 => ((laws_eqArchiveBoxS.f k t113 t121).bind fun t124 => (if t124 = true then (some true) else (some false)))) else (some false)))))) = some r := H
   have A13 := Aside0.mk A130
   clear A130
   replace H := Option.bind_eq_some_iff.mp H
   obtain ⟨t116, A140, H⟩ := H
   replace H : (if (t116 != t109) = true then (some false) else ((laws_toItemS.f k l0).bind fun t117 => ((laws_eqItemS.f k t110 t117).bind fun t120 => (if t120 = true then ((laws_toArchiveBoxS.f k l1).bind fun t121 => ((laws_eqArchiveBoxS.f k t113 t121).bind fun t124 => (if t124 = true then (some true) else (some false)))) else (some false))))) = some r := H
   have A14 := Aside0.mk A140
   clear A140
   by_cases c15 : (t116 != t109) = true
   ·rw [if_pos c15] at H
    have c15b0 : (t116 != t109) = true := c15
    (try (have c15b1 : decide (t116 = t109) = false := by simpa using c15))
    (try (have c15b2 : (t116 == t109) = false := by simpa using c15))
    (try (have c15b3 : ¬ (t116 = t109) := by simpa using c15))
    clear c15
    obtain rfl := Option.some.inj H
    go_enter Try.func6, Try.ntmps6
    go_wp2_with (first | ((with_reducible refine gate_callee (f := 19) rfl ?_); refine goesL_ (some 14) rfl rfl Try.func19 (by kernel_rfl) rfl #[.slice A0 l0.length c0, .int .i64 1048576] rfl (by (try simp only [aM1, aM2, aM3]); first | done | rfl | (simp only [List.length_drop, List.length_take]; rfl)) ?_; (with_reducible refine (laws_szItemS.calls _ _ l0 1048576 t101 _ ?side1 ?side2 A4.out).mono ?_); (case side1 => repeat (first | exact HR0.out | (with_reducible refine Kd.C_alloc ?_ _) | (with_reducible refine Kd.C_drewN ?_ _) | (with_reducible refine Kd.C_drew ?_))); (case side2 => exact HC0.out); rintro e w' ⟨rfl, ⟨nd, rfl⟩⟩; refine ⟨_, rfl, ?_⟩) | ((with_reducible refine gate_callee (f := 14) rfl ?_); refine goesL_ (some 19) rfl rfl Try.func14 (by kernel_rfl) rfl #[.slice A1 l1.length c1, .int .i64 t101] rfl (by (try simp only [aM1, aM2, aM3]); first | done | rfl | (simp only [List.length_drop, List.length_take]; rfl)) ?_; (with_reducible refine (laws_szArchiveBoxS.calls k _ _ l1 t101 t102 _ ?side1 ?side2 A6.out).mono ?_); (case side1 => repeat (first | exact HR1.out | (with_reducible refine Kd.C_alloc ?_ _) | (with_reducible refine Kd.C_drewN ?_ _) | (with_reducible refine Kd.C_drew ?_))); (case side2 => exact HC1.out); rintro e w16 ⟨rfl, hb⟩; refine ⟨_, rfl, ?_⟩; have n0_ := Aside0.mk (below_step (by repeat (first | (with_reducible first | exact HB.out | apply below_alloc | apply pw_below_drewN | apply below_drew1) | exact HB.out)) hb); clear HB; have HB := n0_; clear n0_; (try clear hb); (try clear hb2); (try clear hk); (try clear hi)) | ((with_reducible refine gate_callee (f := 21) rfl ?_); refine goesL_ (some 23) rfl rfl Try.func21 (by kernel_rfl) rfl #[.slice A0 l0.length c0] rfl (by (try simp only [aM1, aM2, aM3]); first | done | rfl | (simp only [List.length_drop, List.length_take]; rfl)) ?_; (with_reducible refine (laws_toItemS.calls k _ _ l0 t103 _ ?side1 ?side2 A9.out).mono ?_); (case side1 => repeat (first | exact (Kd.C_below HR0.out HB.out) | (with_reducible refine Kd.C_alloc ?_ _) | (with_reducible refine Kd.C_drewN ?_ _) | (with_reducible refine Kd.C_drew ?_))); (case side2 => exact HC0.out); rintro e w17 ⟨v104, rfl, ho0, hb⟩; refine ⟨_, rfl, ?_⟩; have n0_ := Aside0.mk (Kd.R_lower ho0 (below_size (by repeat (first | (with_reducible first | exact HB.out | apply below_alloc | apply pw_below_drewN | apply below_drew1) | exact HB.out)))); have n1_ := Aside0.mk (below_step (by repeat (first | (with_reducible first | exact HB.out | apply below_alloc | apply pw_below_drewN | apply below_drew1) | exact HB.out)) hb); clear HB; have HO105 := n0_; have HB := n1_; clear n0_ n1_; (try clear hb); (try clear hb2); (try clear hk); (try clear hi); (try clear ho0)) | ((with_reducible refine gate_callee (f := 16) rfl ?_); refine goesL_ (some 25) rfl rfl Try.func16 (by kernel_rfl) rfl #[.slice A1 l1.length c1] rfl (by (try simp only [aM1, aM2, aM3]); first | done | rfl | (simp only [List.length_drop, List.length_take]; rfl)) ?_; (with_reducible refine (laws_toArchiveBoxS.calls k _ _ l1 t106 _ ?side1 ?side2 A10.out).mono ?_); (case side1 => repeat (first | exact (Kd.C_below HR1.out HB.out) | (with_reducible refine Kd.C_alloc ?_ _) | (with_reducible refine Kd.C_drewN ?_ _) | (with_reducible refine Kd.C_drew ?_))); (case side2 => exact HC1.out); rintro e w18 ⟨v107, rfl, ho0, hb⟩; refine ⟨_, rfl, ?_⟩; have n0_ := Aside0.mk (Kd.R_below (by (with_reducible repeat (first | apply Kd.R_alloc | apply Kd.R_drewN | apply Kd.R_drew)); exact HO105.out) hb); have n1_ := Aside0.mk (Kd.S_lower ho0 (below_size (by repeat (first | (with_reducible first | exact HB.out | apply below_alloc | apply pw_below_drewN | apply below_drew1) | exact HB.out)))); have n2_ := Aside0.mk (below_step (by repeat (first | (with_reducible first | exact HB.out | apply below_alloc | apply pw_below_drewN | apply below_drew1) | exact HB.out)) hb); clear HO105; clear HB; have HO105 := n0_; have HO108 := n1_; have HB := n2_; clear n0_ n1_ n2_; (try clear hb); (try clear hb2); (try clear hk); (try clear hi); (try clear ho0); obtain ⟨Ao19, co19, eo19⟩ := Kd.R_slice HO105.out; subst eo19; obtain ⟨Ao20, co20, eo20⟩ := Kd.S_slice HO108.out; subst eo20) | ((with_reducible refine gate_callee (f := 24) rfl ?_); refine goesL_ (some 27) rfl rfl Try.func24 (by kernel_rfl) rfl #[.slice Ao19 t103.length co19, .slice Ao20 t106.length co20, .int .i64 a2] rfl (by (try simp only [aM1, aM2, aM3]); first | done | rfl | (simp only [List.length_drop, List.length_take]; rfl)) ?_; (with_reducible refine (spec_IsValidArchive.calls k _ _ t103 _ _ t106 a2 t109 _ ?side1 ?side2 ?side3 ?side4 A11.out).mono ?_); (case side1 => repeat (first | exact (Kd.R_reads' HO105.out).2.2 | (with_reducible refine Kd.C_alloc ?_ _) | (with_reducible refine Kd.C_drewN ?_ _) | (with_reducible refine Kd.C_drew ?_))); (case side2 => exact (Kd.R_reads' HO105.out).2.1); (case side3 => repeat (first | exact (Kd.S_reads' HO108.out).2.2 | (with_reducible refine Kd.C_alloc ?_ _) | (with_reducible refine Kd.C_drewN ?_ _) | (with_reducible refine Kd.C_drew ?_))); (case side4 => exact (Kd.S_reads' HO108.out).2.1); rintro e w21 ⟨rfl, hb⟩; refine ⟨_, rfl, ?_⟩; have n0_ := Aside0.mk (Kd.R_below (by (with_reducible repeat (first | apply Kd.R_alloc | apply Kd.R_drewN | apply Kd.R_drew)); exact HO105.out) hb); have n1_ := Aside0.mk (Kd.S_below (by (with_reducible repeat (first | apply Kd.S_alloc | apply Kd.S_drewN | apply Kd.S_drew)); exact HO108.out) hb); have n2_ := Aside0.mk (below_step (by repeat (first | (with_reducible first | exact HB.out | apply below_alloc | apply pw_below_drewN | apply below_drew1) | exact HB.out)) hb); clear HO105; clear HO108; clear HB; have HO105 := n0_; have HO108 := n1_; have HB := n2_; clear n0_ n1_ n2_; (try clear hb); (try clear hb2); (try clear hk); (try clear hi)) | ((with_reducible refine gate_callee (f := 21) rfl ?_); refine goesL_ (some 29) rfl rfl Try.func21 (by kernel_rfl) rfl #[.slice A0 l0.length c0] rfl (by (try simp only [aM1, aM2, aM3]); first | done | rfl | (simp only [List.length_drop, List.length_take]; rfl)) ?_; (with_reducible refine (laws_toItemS.calls k _ _ l0 t110 _ ?side1 ?side2 A12.out).mono ?_); (case side1 => repeat (first | exact (Kd.C_below HR0.out HB.out) | (with_reducible refine Kd.C_alloc ?_ _) | (with_reducible refine Kd.C_drewN ?_ _) | (with_reducible refine Kd.C_drew ?_))); (case side2 => exact HC0.out); rintro e w22 ⟨v111, rfl, ho0, hb⟩; refine ⟨_, rfl, ?_⟩; have n0_ := Aside0.mk (Kd.R_elder' (by (with_reducible repeat (first | apply Kd.R_alloc | apply Kd.R_drewN | apply Kd.R_drew)); exact HO105.out) (Kd.R_base ho0) hb); have n1_ := Aside0.mk (Kd.S_below (by (with_reducible repeat (first | apply Kd.S_alloc | apply Kd.S_drewN | apply Kd.S_drew)); exact HO108.out) hb); have n2_ := Aside0.mk (Kd.R_lower (Kd.R_new' ho0 (Kd.R_lt (by (with_reducible repeat (first | apply Kd.R_alloc | apply Kd.R_drewN | apply Kd.R_drew)); exact HO105.out))) (below_size (by repeat (first | (with_reducible first | exact HB.out | apply below_alloc | apply pw_below_drewN | apply below_drew1) | exact HB.out)))); have n3_ := Aside0.mk (below_step (by repeat (first | (with_reducible first | exact HB.out | apply below_alloc | apply pw_below_drewN | apply below_drew1) | exact HB.out)) hb); clear HO105; clear HO108; clear HB; have HO105 := n0_; have HO108 := n1_; have HO112 := n2_; have HB := n3_; clear n0_ n1_ n2_ n3_; (try clear hb); (try clear hb2); (try clear hk); (try clear hi); (try clear ho0)) | ((with_reducible refine gate_callee (f := 16) rfl ?_); refine goesL_ (some 31) rfl rfl Try.func16 (by kernel_rfl) rfl #[.slice A1 l1.length c1] rfl (by (try simp only [aM1, aM2, aM3]); first | done | rfl | (simp only [List.length_drop, List.length_take]; rfl)) ?_; (with_reducible refine (laws_toArchiveBoxS.calls k _ _ l1 t113 _ ?side1 ?side2 A13.out).mono ?_); (case side1 => repeat (first | exact (Kd.C_below HR1.out HB.out) | (with_reducible refine Kd.C_alloc ?_ _) | (with_reducible refine Kd.C_drewN ?_ _) | (with_reducible refine Kd.C_drew ?_))); (case side2 => exact HC1.out); rintro e w23 ⟨v114, rfl, ho0, hb⟩; refine ⟨_, rfl, ?_⟩; have n0_ := Aside0.mk (Kd.R_below (by (with_reducible repeat (first | apply Kd.R_alloc | apply Kd.R_drewN | apply Kd.R_drew)); exact HO105.out) hb); have n1_ := Aside0.mk (Kd.S_elder' (by (with_reducible repeat (first | apply Kd.S_alloc | apply Kd.S_drewN | apply Kd.S_drew)); exact HO108.out) (Kd.S_base ho0) hb); have n2_ := Aside0.mk (Kd.R_below (by (with_reducible repeat (first | apply Kd.R_alloc | apply Kd.R_drewN | apply Kd.R_drew)); exact HO112.out) hb); have n3_ := Aside0.mk (Kd.S_lower (Kd.S_new' ho0 (Kd.S_lt (by (with_reducible repeat (first | apply Kd.S_alloc | apply Kd.S_drewN | apply Kd.S_drew)); exact HO108.out))) (below_size (by repeat (first | (with_reducible first | exact HB.out | apply below_alloc | apply pw_below_drewN | apply below_drew1) | exact HB.out)))); have n4_ := Aside0.mk (below_step (by repeat (first | (with_reducible first | exact HB.out | apply below_alloc | apply pw_below_drewN | apply below_drew1) | exact HB.out)) hb); clear HO105; clear HO108; clear HO112; clear HB; have HO105 := n0_; have HO108 := n1_; have HO112 := n2_; have HO115 := n3_; have HB := n4_; clear n0_ n1_ n2_ n3_ n4_; (try clear hb); (try clear hb2); (try clear hk); (try clear hi); (try clear ho0); obtain ⟨Ao24, co24, eo24⟩ := Kd.R_slice HO112.out; subst eo24; obtain ⟨Ao25, co25, eo25⟩ := Kd.S_slice HO115.out; subst eo25) | ((with_reducible refine gate_callee (f := 25) rfl ?_); refine goesL_ (some 35) rfl rfl Try.func25 (by kernel_rfl) rfl #[.slice Ao24 t110.length co24, .slice Ao25 t113.length co25, .int .i64 a2] rfl (by (try simp only [aM1, aM2, aM3]); first | done | rfl | (simp only [List.length_drop, List.length_take]; rfl)) ?_; (with_reducible refine (impl_IsValidArchive.calls k _ _ t110 _ _ t113 a2 t116 _ ?side1 ?side2 ?side3 ?side4 A14.out).mono ?_); (case side1 => repeat (first | exact (Kd.R_reads' HO112.out).2.2 | (with_reducible refine Kd.C_alloc ?_ _) | (with_reducible refine Kd.C_drewN ?_ _) | (with_reducible refine Kd.C_drew ?_))); (case side2 => exact (Kd.R_reads' HO112.out).2.1); (case side3 => repeat (first | exact (Kd.S_reads' HO115.out).2.2 | (with_reducible refine Kd.C_alloc ?_ _) | (with_reducible refine Kd.C_drewN ?_ _) | (with_reducible refine Kd.C_drew ?_))); (case side4 => exact (Kd.S_reads' HO115.out).2.1); rintro e w26 ⟨rfl, hb⟩; refine ⟨_, rfl, ?_⟩; have n0_ := Aside0.mk (Kd.R_below (by (with_reducible repeat (first | apply Kd.R_alloc | apply Kd.R_drewN | apply Kd.R_drew)); exact HO105.out) hb); have n1_ := Aside0.mk (Kd.S_below (by (with_reducible repeat (first | apply Kd.S_alloc | apply Kd.S_drewN | apply Kd.S_drew)); exact HO108.out) hb); have n2_ := Aside0.mk (Kd.R_below (by (with_reducible repeat (first | apply Kd.R_alloc | apply Kd.R_drewN | apply Kd.R_drew)); exact HO112.out) hb); have n3_ := Aside0.mk (Kd.S_below (by (with_reducible repeat (first | apply Kd.S_alloc | apply Kd.S_drewN | apply Kd.S_drew)); exact HO115.out) hb); have n4_ := Aside0.mk (below_step (by repeat (first | (with_reducible first | exact HB.out | apply below_alloc | apply pw_below_drewN | apply below_drew1) | exact HB.out)) hb); clear HO105; clear HO108; clear HO112; clear HO115; clear HB; have HO105 := n0_; have HO108 := n1_; have HO112 := n2_; have HO115 := n3_; have HB := n4_; clear n0_ n1_ n2_ n3_ n4_; (try clear hb); (try clear hb2); (try clear hk); (try clear hi)))
    go_ret
    exact ⟨by first | rfl | (simp [errW_none, errW_some] <;> rfl) | (simp [*, errW_none, errW_some] <;> rfl), by repeat (first | (with_reducible first | exact HB.out | apply below_alloc | apply pw_below_drewN | apply below_drew1) | exact HB.out)⟩
   ·rw [if_neg c15] at H
    have c15b0 : (t116 != t109) = false := by simpa using c15
    (try (have c15b1 : decide (t116 = t109) = true := by simpa using c15))
    (try (have c15b2 : (t116 == t109) = true := by simpa using c15))
    clear c15
    replace H := Option.bind_eq_some_iff.mp H
    obtain ⟨t117, A270, H⟩ := H
    replace H : ((laws_eqItemS.f k t110 t117).bind fun t120 => (if t120 = true then ((laws_toArchiveBoxS.f k l1).bind fun t121 => ((laws_eqArchiveBoxS.f k t113 t121).bind fun t124 => (if t124 = true then (some true) else (some false)))) else (some false))) = some r := H
    have A27 := Aside0.mk A270
    clear A270
    replace H := Option.bind_eq_some_iff.mp H
    obtain ⟨t120, A280, H⟩ := H
    replace H : (if t120 = true then ((laws_toArchiveBoxS.f k l1).bind fun t121 => ((laws_eqArchiveBoxS.f k t113 t121).bind fun t124 => (if t124 = true then (some true) else (some false)))) else (some false)) = some r := H
    have A28 := Aside0.mk A280
    clear A280
    by_cases c29 : t120 = true
    ·subst c29
     have H1 : ((laws_toArchiveBoxS.f k l1).bind fun t121 => ((laws_eqArchiveBoxS.f k t113 t121).bind fun t124 => (if t124 = true then (some true) else (some false)))) = some r := by rw [if_pos rfl] at H; exact H
     clear H
     have H := H1
     clear H1
     replace H := Option.bind_eq_some_iff.mp H
     obtain ⟨t121, A300, H⟩ := H
     replace H : ((laws_eqArchiveBoxS.f k t113 t121).bind fun t124 => (if t124 = true then (some true) else (some false))) = some r := H
     have A30 := Aside0.mk A300
     clear A300
     replace H := Option.bind_eq_some_iff.mp H
     obtain ⟨t124, A310, H⟩ := H
     replace H : (if t124 = true then (some true) else (some false)) = some r := H
     have A31 := Aside0.mk A310
     clear A310
     by_cases c32 : t124 = true
     ·subst c32
      have H1 : (some true) = some r := by rw [if_pos rfl] at H; exact H
      clear H
      have H := H1
      clear H1
      obtain rfl := Option.some.inj H
      go_enter Try.func6, Try.ntmps6
      go_wp2_with (first | ((with_reducible refine gate_callee (f := 19) rfl ?_); refine goesL_ (some 14) rfl rfl Try.func19 (by kernel_rfl) rfl #[.slice A0 l0.length c0, .int .i64 1048576] rfl (by (try simp only [aM1, aM2, aM3]); first | done | rfl | (simp only [List.length_drop, List.length_take]; rfl)) ?_; (with_reducible refine (laws_szItemS.calls _ _ l0 1048576 t101 _ ?side1 ?side2 A4.out).mono ?_); (case side1 => repeat (first | exact HR0.out | (with_reducible refine Kd.C_alloc ?_ _) | (with_reducible refine Kd.C_drewN ?_ _) | (with_reducible refine Kd.C_drew ?_))); (case side2 => exact HC0.out); rintro e w' ⟨rfl, ⟨nd, rfl⟩⟩; refine ⟨_, rfl, ?_⟩) | ((with_reducible refine gate_callee (f := 14) rfl ?_); refine goesL_ (some 19) rfl rfl Try.func14 (by kernel_rfl) rfl #[.slice A1 l1.length c1, .int .i64 t101] rfl (by (try simp only [aM1, aM2, aM3]); first | done | rfl | (simp only [List.length_drop, List.length_take]; rfl)) ?_; (with_reducible refine (laws_szArchiveBoxS.calls k _ _ l1 t101 t102 _ ?side1 ?side2 A6.out).mono ?_); (case side1 => repeat (first | exact HR1.out | (with_reducible refine Kd.C_alloc ?_ _) | (with_reducible refine Kd.C_drewN ?_ _) | (with_reducible refine Kd.C_drew ?_))); (case side2 => exact HC1.out); rintro e w33 ⟨rfl, hb⟩; refine ⟨_, rfl, ?_⟩; have n0_ := Aside0.mk (below_step (by repeat (first | (with_reducible first | exact HB.out | apply below_alloc | apply pw_below_drewN | apply below_drew1) | exact HB.out)) hb); clear HB; have HB := n0_; clear n0_; (try clear hb); (try clear hb2); (try clear hk); (try clear hi)) | ((with_reducible refine gate_callee (f := 21) rfl ?_); refine goesL_ (some 23) rfl rfl Try.func21 (by kernel_rfl) rfl #[.slice A0 l0.length c0] rfl (by (try simp only [aM1, aM2, aM3]); first | done | rfl | (simp only [List.length_drop, List.length_take]; rfl)) ?_; (with_reducible refine (laws_toItemS.calls k _ _ l0 t103 _ ?side1 ?side2 A9.out).mono ?_); (case side1 => repeat (first | exact (Kd.C_below HR0.out HB.out) | (with_reducible refine Kd.C_alloc ?_ _) | (with_reducible refine Kd.C_drewN ?_ _) | (with_reducible refine Kd.C_drew ?_))); (case side2 => exact HC0.out); rintro e w34 ⟨v104, rfl, ho0, hb⟩; refine ⟨_, rfl, ?_⟩; have n0_ := Aside0.mk (Kd.R_lower ho0 (below_size (by repeat (first | (with_reducible first | exact HB.out | apply below_alloc | apply pw_below_drewN | apply below_drew1) | exact HB.out)))); have n1_ := Aside0.mk (below_step (by repeat (first | (with_reducible first | exact HB.out | apply below_alloc | apply pw_below_drewN | apply below_drew1) | exact HB.out)) hb); clear HB; have HO105 := n0_; have HB := n1_; clear n0_ n1_; (try clear hb); (try clear hb2); (try clear hk); (try clear hi); (try clear ho0)) | ((with_reducible refine gate_callee (f := 16) rfl ?_); refine goesL_ (some 25) rfl rfl Try.func16 (by kernel_rfl) rfl #[.slice A1 l1.length c1] rfl (by (try simp only [aM1, aM2, aM3]); first | done | rfl | (simp only [List.length_drop, List.length_take]; rfl)) ?_; (with_reducible refine (laws_toArchiveBoxS.calls k _ _ l1 t106 _ ?side1 ?side2 A10.out).mono ?_); (case side1 => repeat (first | exact (Kd.C_below HR1.out HB.out) | (with_reducible refine Kd.C_alloc ?_ _) | (with_reducible refine Kd.C_drewN ?_ _) | (with_reducible refine Kd.C_drew ?_))); (case side2 => exact HC1.out); rintro e w35 ⟨v107, rfl, ho0, hb⟩; refine ⟨_, rfl, ?_⟩; have n0_ := Aside0.mk (Kd.R_below (by (with_reducible repeat (first | apply Kd.R_alloc | apply Kd.R_drewN | apply Kd.R_drew)); exact HO105.out) hb); have n1_ := Aside0.mk (Kd.S_lower ho0 (below_size (by repeat (first | (with_reducible first | exact HB.out | apply below_alloc | apply pw_below_drewN | apply below_drew1) | exact HB.out)))); have n2_ := Aside0.mk (below_step (by repeat (first | (with_reducible first | exact HB.out | apply below_alloc | apply pw_below_drewN | apply below_drew1) | exact HB.out)) hb); clear HO105; clear HB; have HO105 := n0_; have HO108 := n1_; have HB := n2_; clear n0_ n1_ n2_; (try clear hb); (try clear hb2); (try clear hk); (try clear hi); (try clear ho0); obtain ⟨Ao36, co36, eo36⟩ := Kd.R_slice HO105.out; subst eo36; obtain ⟨Ao37, co37, eo37⟩ := Kd.S_slice HO108.out; subst eo37) | ((with_reducible refine gate_callee (f := 24) rfl ?_); refine goesL_ (some 27) rfl rfl Try.func24 (by kernel_rfl) rfl #[.slice Ao36 t103.length co36, .slice Ao37 t106.length co37, .int .i64 a2] rfl (by (try simp only [aM1, aM2, aM3]); first | done | rfl | (simp only [List.length_drop, List.length_take]; rfl)) ?_; (with_reducible refine (spec_IsValidArchive.calls k _ _ t103 _ _ t106 a2 t109 _ ?side1 ?side2 ?side3 ?side4 A11.out).mono ?_); (case side1 => repeat (first | exact (Kd.R_reads' HO105.out).2.2 | (with_reducible refine Kd.C_alloc ?_ _) | (with_reducible refine Kd.C_drewN ?_ _) | (with_reducible refine Kd.C_drew ?_))); (case side2 => exact (Kd.R_reads' HO105.out).2.1); (case side3 => repeat (first | exact (Kd.S_reads' HO108.out).2.2 | (with_reducible refine Kd.C_alloc ?_ _) | (with_reducible refine Kd.C_drewN ?_ _) | (with_reducible refine Kd.C_drew ?_))); (case side4 => exact (Kd.S_reads' HO108.out).2.1); rintro e w38 ⟨rfl, hb⟩; refine ⟨_, rfl, ?_⟩; have n0_ := Aside0.mk (Kd.R_below (by (with_reducible repeat (first | apply Kd.R_alloc | apply Kd.R_drewN | apply Kd.R_drew)); exact HO105.out) hb); have n1_ := Aside0.mk (Kd.S_below (by (with_reducible repeat (first | apply Kd.S_alloc | apply Kd.S_drewN | apply Kd.S_drew)); exact HO108.out) hb); have n2_ := Aside0.mk (below_step (by repeat (first | (with_reducible first | exact HB.out | apply below_alloc | apply pw_below_drewN | apply below_drew1) | exact HB.out)) hb); clear HO105; clear HO108; clear HB; have HO105 := n0_; have HO108 := n1_; have HB := n2_; clear n0_ n1_ n2_; (try clear hb); (try clear hb2); (try clear hk); (try clear hi)) | ((with_reducible refine gate_callee (f := 21) rfl ?_); refine goesL_ (some 29) rfl rfl Try.func21 (by kernel_rfl) rfl #[.slice A0 l0.length c0] rfl (by (try simp only [aM1, aM2, aM3]); first | done | rfl | (simp only [List.length_drop, List.length_take]; rfl)) ?_; (with_reducible refine (laws_toItemS.calls k _ _ l0 t110 _ ?side1 ?side2 A12.out).mono ?_); (case side1 => repeat (first | exact (Kd.C_below HR0.out HB.out) | (with_reducible refine Kd.C_alloc ?_ _) | (with_reducible refine Kd.C_drewN ?_ _) | (with_reducible refine Kd.C_drew ?_))); (case side2 => exact HC0.out); rintro e w39 ⟨v111, rfl, ho0, hb⟩; refine ⟨_, rfl, ?_⟩; have n0_ := Aside0.mk (Kd.R_elder' (by (with_reducible repeat (first | apply Kd.R_alloc | apply Kd.R_drewN | apply Kd.R_drew)); exact HO105.out) (Kd.R_base ho0) hb); have n1_ := Aside0.mk (Kd.S_below (by (with_reducible repeat (first | apply Kd.S_alloc | apply Kd.S_drewN | apply Kd.S_drew)); exact HO108.out) hb); have n2_ := Aside0.mk (Kd.R_lower (Kd.R_new' ho0 (Kd.R_lt (by (with_reducible repeat (first | apply Kd.R_alloc | apply Kd.R_drewN | apply Kd.R_drew)); exact HO105.out))) (below_size (by repeat (first | (with_reducible first | exact HB.out | apply below_alloc | apply pw_below_drewN | apply below_drew1) | exact HB.out)))); have n3_ := Aside0.mk (below_step (by repeat (first | (with_reducible first | exact HB.out | apply below_alloc | apply pw_below_drewN | apply below_drew1) | exact HB.out)) hb); clear HO105; clear HO108; clear HB; have HO105 := n0_; have HO108 := n1_; have HO112 := n2_; have HB := n3_; clear n0_ n1_ n2_ n3_; (try clear hb); (try clear hb2); (try clear hk); (try clear hi); (try clear ho0)) | ((with_reducible refine gate_callee (f := 16) rfl ?_); refine goesL_ (some 31) rfl rfl Try.func16 (by kernel_rfl) rfl #[.slice A1 l1.length c1] rfl (by (try simp only [aM1, aM2, aM3]); first | done | rfl | (simp only [List.length_drop, List.length_take]; rfl)) ?_; (with_reducible refine (laws_toArchiveBoxS.calls k _ _ l1 t113 _ ?side1 ?side2 A13.out).mono ?_); (case side1 => repeat (first | exact (Kd.C_below HR1.out HB.out) | (with_reducible refine Kd.C_alloc ?_ _) | (with_reducible refine Kd.C_drewN ?_ _) | (with_reducible refine Kd.C_drew ?_))); (case side2 => exact HC1.out); rintro e w40 ⟨v114, rfl, ho0, hb⟩; refine ⟨_, rfl, ?_⟩; have n0_ := Aside0.mk (Kd.R_below (by (with_reducible repeat (first | apply Kd.R_alloc | apply Kd.R_drewN | apply Kd.R_drew)); exact HO105.out) hb); have n1_ := Aside0.mk (Kd.S_elder' (by (with_reducible repeat (first | apply Kd.S_alloc | apply Kd.S_drewN | apply Kd.S_drew)); exact HO108.out) (Kd.S_base ho0) hb); have n2_ := Aside0.mk (Kd.R_below (by (with_reducible repeat (first | apply Kd.R_alloc | apply Kd.R_drewN | apply Kd.R_drew)); exact HO112.out) hb); have n3_ := Aside0.mk (Kd.S_lower (Kd.S_new' ho0 (Kd.S_lt (by (with_reducible repeat (first | apply Kd.S_alloc | apply Kd.S_drewN | apply Kd.S_drew)); exact HO108.out))) (below_size (by repeat (first | (with_reducible first | exact HB.out | apply below_alloc | apply pw_below_drewN | apply below_drew1) | exact HB.out)))); have n4_ := Aside0.mk (below_step (by repeat (first | (with_reducible first | exact HB.out | apply below_alloc | apply pw_below_drewN | apply below_drew1) | exact HB.out)) hb); clear HO105; clear HO108; clear HO112; clear HB; have HO105 := n0_; have HO108 := n1_; have HO112 := n2_; have HO115 := n3_; have HB := n4_; clear n0_ n1_ n2_ n3_ n4_; (try clear hb); (try clear hb2); (try clear hk); (try clear hi); (try clear ho0); obtain ⟨Ao41, co41, eo41⟩ := Kd.R_slice HO112.out; subst eo41; obtain ⟨Ao42, co42, eo42⟩ := Kd.S_slice HO115.out; subst eo42) | ((with_reducible refine gate_callee (f := 25) rfl ?_); refine goesL_ (some 35) rfl rfl Try.func25 (by kernel_rfl) rfl #[.slice Ao41 t110.length co41, .slice Ao42 t113.length co42, .int .i64 a2] rfl (by (try simp only [aM1, aM2, aM3]); first | done | rfl | (simp only [List.length_drop, List.length_take]; rfl)) ?_; (with_reducible refine (impl_IsValidArchive.calls k _ _ t110 _ _ t113 a2 t116 _ ?side1 ?side2 ?side3 ?side4 A14.out).mono ?_); (case side1 => repeat (first | exact (Kd.R_reads' HO112.out).2.2 | (with_reducible refine Kd.C_alloc ?_ _) | (with_reducible refine Kd.C_drewN ?_ _) | (with_reducible refine Kd.C_drew ?_))); (case side2 => exact (Kd.R_reads' HO112.out).2.1); (case side3 => repeat (first | exact (Kd.S_reads' HO115.out).2.2 | (with_reducible refine Kd.C_alloc ?_ _) | (with_reducible refine Kd.C_drewN ?_ _) | (with_reducible refine Kd.C_drew ?_))); (case side4 => exact (Kd.S_reads' HO115.out).2.1); rintro e w43 ⟨rfl, hb⟩; refine ⟨_, rfl, ?_⟩; have n0_ := Aside0.mk (Kd.R_below (by (with_reducible repeat (first | apply Kd.R_alloc | apply Kd.R_drewN | apply Kd.R_drew)); exact HO105.out) hb); have n1_ := Aside0.mk (Kd.S_below (by (with_reducible repeat (first | apply Kd.S_alloc | apply Kd.S_drewN | apply Kd.S_drew)); exact HO108.out) hb); have n2_ := Aside0.mk (Kd.R_below (by (with_reducible repeat (first | apply Kd.R_alloc | apply Kd.R_drewN | apply Kd.R_drew)); exact HO112.out) hb); have n3_ := Aside0.mk (Kd.S_below (by (with_reducible repeat (first | apply Kd.S_alloc | apply Kd.S_drewN | apply Kd.S_drew)); exact HO115.out) hb); have n4_ := Aside0.mk (below_step (by repeat (first | (with_reducible first | exact HB.out | apply below_alloc | apply pw_below_drewN | apply below_drew1) | exact HB.out)) hb); clear HO105; clear HO108; clear HO112; clear HO115; clear HB; have HO105 := n0_; have HO108 := n1_; have HO112 := n2_; have HO115 := n3_; have HB := n4_; clear n0_ n1_ n2_ n3_ n4_; (try clear hb); (try clear hb2); (try clear hk); (try clear hi)) | ((with_reducible refine gate_callee (f := 21) rfl ?_); refine goesL_ (some 41) rfl rfl Try.func21 (by kernel_rfl) rfl #[.slice A0 l0.length c0] rfl (by (try simp only [aM1, aM2, aM3]); first | done | rfl | (simp only [List.length_drop, List.length_take]; rfl)) ?_; (with_reducible refine (laws_toItemS.calls k _ _ l0 t117 _ ?side1 ?side2 A27.out).mono ?_); (case side1 => repeat (first | exact (Kd.C_below HR0.out HB.out) | (with_reducible refine Kd.C_alloc ?_ _) | (with_reducible refine Kd.C_drewN ?_ _) | (with_reducible refine Kd.C_drew ?_))); (case side2 => exact HC0.out); rintro e w44 ⟨v118, rfl, ho0, hb⟩; refine ⟨_, rfl, ?_⟩; have n0_ := Aside0.mk (Kd.R_elder' (by (with_reducible repeat (first | apply Kd.R_alloc | apply Kd.R_drewN | apply Kd.R_drew)); exact HO105.out) (Kd.R_base ho0) hb); have n1_ := Aside0.mk (Kd.S_below (by (with_reducible repeat (first | apply Kd.S_alloc | apply Kd.S_drewN | apply Kd.S_drew)); exact HO108.out) hb); have n2_ := Aside0.mk (Kd.R_elder' (by (with_reducible repeat (first | apply Kd.R_alloc | apply Kd.R_drewN | apply Kd.R_drew)); exact HO112.out) (Kd.R_base ho0) hb); have n3_ := Aside0.mk (Kd.S_below (by (with_reducible repeat (first | apply Kd.S_alloc | apply Kd.S_drewN | apply Kd.S_drew)); exact HO115.out) hb); have n4_ := Aside0.mk (Kd.R_lower (Kd.R_new' (Kd.R_new' ho0 (Kd.R_lt (by (with_reducible repeat (first | apply Kd.R_alloc | apply Kd.R_drewN | apply Kd.R_drew)); exact HO105.out))) (Kd.R_lt (by (with_reducible repeat (first | apply Kd.R_alloc | apply Kd.R_drewN | apply Kd.R_drew)); exact HO112.out))) (below_size (by repeat (first | (with_reducible first | exact HB.out | apply below_alloc | apply pw_below_drewN | apply below_drew1) | exact HB.out)))); have n5_ := Aside0.mk (below_step (by repeat (first | (with_reducible first | exact HB.out | apply below_alloc | apply pw_below_drewN | apply below_drew1) | exact HB.out)) hb); clear HO105; clear HO108; clear HO112; clear HO115; clear HB; have HO105 := n0_; have HO108 := n1_; have HO112 := n2_; have HO115 := n3_; have HO119 := n4_; have HB := n5_; clear n0_ n1_ n2_ n3_ n4_ n5_; (try clear hb); (try clear hb2); (try clear hk); (try clear hi); (try clear ho0); obtain ⟨Ao45, co45, eo45⟩ := Kd.R_slice HO119.out; subst eo45) | ((with_reducible refine gate_callee (f := 23) rfl ?_); refine goesL_ (some 42) rfl rfl Try.func23 (by kernel_rfl) rfl #[.slice Ao41 t110.length co41, .slice Ao45 t117.length co45] rfl (by (try simp only [aM1, aM2, aM3]); first | done | rfl | (simp only [List.length_drop, List.length_take]; rfl)) ?_; (with_reducible refine (laws_eqItemS.calls k _ _ t110 _ _ t117 true _ ?side1 ?side2 ?side3 ?side4 A28.out).mono ?_); (case side1 => repeat (first | exact (Kd.R_reads' HO112.out).2.2 | (with_reducible refine Kd.C_alloc ?_ _) | (with_reducible refine Kd.C_drewN ?_ _) | (with_reducible refine Kd.C_drew ?_))); (case side2 => exact (Kd.R_reads' HO112.out).2.1); (case side3 => repeat (first | exact (Kd.R_reads' HO119.out).2.2 | (with_reducible refine Kd.C_alloc ?_ _) | (with_reducible refine Kd.C_drewN ?_ _) | (with_reducible refine Kd.C_drew ?_))); (case side4 => exact (Kd.R_reads' HO119.out).2.1); rintro e w46 ⟨rfl, hb⟩; refine ⟨_, rfl, ?_⟩; have n0_ := Aside0.mk (Kd.R_below (by (with_reducible repeat (first | apply Kd.R_alloc | apply Kd.R_drewN | apply Kd.R_drew)); exact HO105.out) hb); have n1_ := Aside0.mk (Kd.S_below (by (with_reducible repeat (first | apply Kd.S_alloc | apply Kd.S_drewN | apply Kd.S_drew)); exact HO108.out) hb); have n2_ := Aside0.mk (Kd.R_below (by (with_reducible repeat (first | apply Kd.R_alloc | apply Kd.R_drewN | apply Kd.R_drew)); exact HO112.out) hb); have n3_ := Aside0.mk (Kd.S_below (by (with_reducible repeat (first | apply Kd.S_alloc | apply Kd.S_drewN | apply Kd.S_drew)); exact HO115.out) hb); have n4_ := Aside0.mk (Kd.R_below (by (with_reducible repeat (first | apply Kd.R_alloc | apply Kd.R_drewN | apply Kd.R_drew)); exact HO119.out) hb); have n5_ := Aside0.mk (below_step (by repeat (first | (with_reducible first | exact HB.out | apply below_alloc | apply pw_below_drewN | apply below_drew1) | exact HB.out)) hb); clear HO105; clear HO108; clear HO112; clear HO115; clear HO119; clear HB; have HO105 := n0_; have HO108 := n1_; have HO112 := n2_; have HO115 := n3_; have HO119 := n4_; have HB := n5_; clear n0_ n1_ n2_ n3_ n4_ n5_; (try clear hb); (try clear hb2); (try clear hk); (try clear hi)) | ((with_reducible refine gate_callee (f := 16) rfl ?_); refine goesL_ (some 46) rfl rfl Try.func16 (by kernel_rfl) rfl #[.slice A1 l1.length c1] rfl (by (try simp only [aM1, aM2, aM3]); first | done | rfl | (simp only [List.length_drop, List.length_take]; rfl)) ?_; (with_reducible refine (laws_toArchiveBoxS.calls k _ _ l1 t121 _ ?side1 ?side2 A30.out).mono ?_); (case side1 => repeat (first | exact (Kd.C_below HR1.out HB.out) | (with_reducible refine Kd.C_alloc ?_ _) | (with_reducible refine Kd.C_drewN ?_ _) | (with_reducible refine Kd.C_drew ?_))); (case side2 => exact HC1.out); rintro e w47 ⟨v122, rfl, ho0, hb⟩; refine ⟨_, rfl, ?_⟩; have n0_ := Aside0.mk (Kd.R_below (by (with_reducible repeat (first | apply Kd.R_alloc | apply Kd.R_drewN | apply Kd.R_drew)); exact HO105.out) hb); have n1_ := Aside0.mk (Kd.S_elder' (by (with_reducible repeat (first | apply Kd.S_alloc | apply Kd.S_drewN | apply Kd.S_drew)); exact HO108.out) (Kd.S_base ho0) hb); have n2_ := Aside0.mk (Kd.R_below (by (with_reducible repeat (first | apply Kd.R_alloc | apply Kd.R_drewN | apply Kd.R_drew)); exact HO112.out) hb); have n3_ := Aside0.mk (Kd.S_elder' (by (with_reducible repeat (first | apply Kd.S_alloc | apply Kd.S_drewN | apply Kd.S_drew)); exact HO115.out) (Kd.S_base ho0) hb); have n4_ := Aside0.mk (Kd.R_below (by (with_reducible repeat (first | apply Kd.R_alloc | apply Kd.R_drewN | apply Kd.R_drew)); exact HO119.out) hb); have n5_ := Aside0.mk (Kd.S_lower (Kd.S_new' (Kd.S_new' ho0 (Kd.S_lt (by (with_reducible repeat (first | apply Kd.S_alloc | apply Kd.S_drewN | apply Kd.S_drew)); exact HO108.out))) (Kd.S_lt (by (with_reducible repeat (first | apply Kd.S_alloc | apply Kd.S_drewN | apply Kd.S_drew)); exact HO115.out))) (below_size (by repeat (first | (with_reducible first | exact HB.out | apply below_alloc | apply pw_below_drewN | apply below_drew1) | exact HB.out)))); have n6_ := Aside0.mk (below_step (by repeat (first | (with_reducible first | exact HB.out | apply below_alloc | apply pw_below_drewN | apply below_drew1) | exact HB.out)) hb); clear HO105; clear HO108; clear HO112; clear HO115; clear HO119; clear HB; have HO105 := n0_; have HO108 := n1_; have HO112 := n2_; have HO115 := n3_; have HO119 := n4_; have HO123 := n5_; have HB := n6_; clear n0_ n1_ n2_ n3_ n4_ n5_ n6_; (try clear hb); (try clear hb2); (try clear hk); (try clear hi); (try clear ho0); obtain ⟨Ao48, co48, eo48⟩ := Kd.S_slice HO123.out; subst eo48) | ((with_reducible refine gate_callee (f := 18) rfl ?_); refine goesL_ (some 47) rfl rfl Try.func18 (by kernel_rfl) rfl #[.slice Ao42 t113.length co42, .slice Ao48 t121.length co48] rfl (by (try simp only [aM1, aM2, aM3]); first | done | rfl | (simp only [List.length_drop, List.length_take]; rfl)) ?_; (with_reducible refine (laws_eqArchiveBoxS.calls k _ _ t113 _ _ t121 true _ ?side1 ?side2 ?side3 ?side4 A31.out).mono ?_); (case side1 => repeat (first | exact (Kd.S_reads' HO115.out).2.2 | (with_reducible refine Kd.C_alloc ?_ _) | (with_reducible refine Kd.C_drewN ?_ _) | (with_reducible refine Kd.C_drew ?_))); (case side2 => exact (Kd.S_reads' HO115.out).2.1); (case side3 => repeat (first | exact (Kd.S_reads' HO123.out).2.2 | (with_reducible refine Kd.C_alloc ?_ _) | (with_reducible refine Kd.C_drewN ?_ _) | (with_reducible refine Kd.C_drew ?_))); (case side4 => exact (Kd.S_reads' HO123.out).2.1); rintro e w49 ⟨rfl, hb⟩; refine ⟨_, rfl, ?_⟩; have n0_ := Aside0.mk (Kd.R_below (by (with_reducible repeat (first | apply Kd.R_alloc | apply Kd.R_drewN | apply Kd.R_drew)); exact HO105.out) hb); have n1_ := Aside0.mk (Kd.S_below (by (with_reducible repeat (first | apply Kd.S_alloc | apply Kd.S_drewN | apply Kd.S_drew)); exact HO108.out) hb); have n2_ := Aside0.mk (Kd.R_below (by (with_reducible repeat (first | apply Kd.R_alloc | apply Kd.R_drewN | apply Kd.R_drew)); exact HO112.out) hb); have n3_ := Aside0.mk (Kd.S_below (by (with_reducible repeat (first | apply Kd.S_alloc | apply Kd.S_drewN | apply Kd.S_drew)); exact HO115.out) hb); have n4_ := Aside0.mk (Kd.R_below (by (with_reducible repeat (first | apply Kd.R_alloc | apply Kd.R_drewN | apply Kd.R_drew)); exact HO119.out) hb); have n5_ := Aside0.mk (Kd.S_below (by (with_reducible repeat (first | apply Kd.S_alloc | apply Kd.S_drewN | apply Kd.S_drew)); exact HO123.out) hb); have n6_ := Aside0.mk (below_step (by repeat (first | (with_reducible first | exact HB.out | apply below_alloc | apply pw_below_drewN | apply below_drew1) | exact HB.out)) hb); clear HO105; clear HO108; clear HO112; clear HO115; clear HO119; clear HO123; clear HB; have HO105 := n0_; have HO108 := n1_; have HO112 := n2_; have HO115 := n3_; have HO119 := n4_; have HO123 := n5_; have HB := n6_; clear n0_ n1_ n2_ n3_ n4_ n5_ n6_; (try clear hb); (try clear hb2); (try clear hk); (try clear hi)))
      go_ret
      exact ⟨by first | rfl | (simp [errW_none, errW_some] <;> rfl) | (simp [*, errW_none, errW_some] <;> rfl), by repeat (first | (with_reducible first | exact HB.out | apply below_alloc | apply pw_below_drewN | apply below_drew1) | exact HB.out)⟩
     ·replace c32 := Bool.eq_false_iff.mpr c32
      subst c32
      have H1 : (some false) = some r := by rw [if_neg (show ¬ (false = true) by decide)] at H; exact H
      clear H
      have H := H1
      clear H1
      obtain rfl := Option.some.inj H
      go_enter Try.func6, Try.ntmps6
      go_wp2_with (first | ((with_reducible refine gate_callee (f := 19) rfl ?_); refine goesL_ (some 14) rfl rfl Try.func19 (by kernel_rfl) rfl #[.slice A0 l0.length c0, .int .i64 1048576] rfl (by (try simp only [aM1, aM2, aM3]); first | done | rfl | (simp only [List.length_drop, List.length_take]; rfl)) ?_; (with_reducible refine (laws_szItemS.calls _ _ l0 1048576 t101 _ ?side1 ?side2 A4.out).mono ?_); (case side1 => repeat (first | exact HR0.out | (with_reducible refine Kd.C_alloc ?_ _) | (with_reducible refine Kd.C_drewN ?_ _) | (with_reducible refine Kd.C_drew ?_))); (case side2 => exact HC0.out); rintro e w' ⟨rfl, ⟨nd, rfl⟩⟩; refine ⟨_, rfl, ?_⟩) | ((with_reducible refine gate_callee (f := 14) rfl ?_); refine goesL_ (some 19) rfl rfl Try.func14 (by kernel_rfl) rfl #[.slice A1 l1.length c1, .int .i64 t101] rfl (by (try simp only [aM1, aM2, aM3]); first | done | rfl | (simp only [List.length_drop, List.length_take]; rfl)) ?_; (with_reducible refine (laws_szArchiveBoxS.calls k _ _ l1 t101 t102 _ ?side1 ?side2 A6.out).mono ?_); (case side1 => repeat (first | exact HR1.out | (with_reducible refine Kd.C_alloc ?_ _) | (with_reducible refine Kd.C_drewN ?_ _) | (with_reducible refine Kd.C_drew ?_))); (case side2 => exact HC1.out); rintro e w50 ⟨rfl, hb⟩; refine ⟨_, rfl, ?_⟩; have n0_ := Aside0.mk (below_step (by repeat (first | (with_reducible first | exact HB.out | apply below_alloc | apply pw_below_drewN | apply below_drew1) | exact HB.out)) hb); clear HB; have HB := n0_; clear n0_; (try clear hb); (try clear hb2); (try clear hk); (try clear hi)) | ((with_reducible refine gate_callee (f := 21) rfl ?_); refine goesL_ (some 23) rfl rfl Try.func21 (by kernel_rfl) rfl #[.slice A0 l0.length c0] rfl (by (try simp only [aM1, aM2, aM3]); first | done | rfl | (simp only [List.length_drop, List.length_take]; rfl)) ?_; (with_reducible refine (laws_toItemS.calls k _ _ l0 t103 _ ?side1 ?side2 A9.out).mono ?_); (case side1 => repeat (first | exact (Kd.C_below HR0.out HB.out) | (with_reducible refine Kd.C_alloc ?_ _) | (with_reducible refine Kd.C_drewN ?_ _) | (with_reducible refine Kd.C_drew ?_))); (case side2 => exact HC0.out); rintro e w51 ⟨v104, rfl, ho0, hb⟩; refine ⟨_, rfl, ?_⟩; have n0_ := Aside0.mk (Kd.R_lower ho0 (below_size (by repeat (first | (with_reducible first | exact HB.out | apply below_alloc | apply pw_below_drewN | apply below_drew1) | exact HB.out)))); have n1_ := Aside0.mk (below_step (by repeat (first | (with_reducible first | exact HB.out | apply below_alloc | apply pw_below_drewN | apply below_drew1) | exact HB.out)) hb); clear HB; have HO105 := n0_; have HB := n1_; clear n0_ n1_; (try clear hb); (try clear hb2); (try clear hk); (try clear hi); (try clear ho0)) | ((with_reducible refine gate_callee (f := 16) rfl ?_); refine goesL_ (some 25) rfl rfl Try.func16 (by kernel_rfl) rfl #[.slice A1 l1.length c1] rfl (by (try simp only [aM1, aM2, aM3]); first | done | rfl | (simp only [List.length_drop, List.length_take]; rfl)) ?_; (with_reducible refine (laws_toArchiveBoxS.calls k _ _ l1 t106 _ ?side1 ?side2 A10.out).mono ?_); (case side1 => repeat (first | exact (Kd.C_below HR1.out HB.out) | (with_reducible refine Kd.C_alloc ?_ _) | (with_reducible refine Kd.C_drewN ?_ _) | (with_reducible refine Kd.C_drew ?_))); (case side2 => exact HC1.out); rintro e w52 ⟨v107, rfl, ho0, hb⟩; refine ⟨_, rfl, ?_⟩; have n0_ := Aside0.mk (Kd.R_below (by (with_reducible repeat (first | apply Kd.R_alloc | apply Kd.R_drewN | apply Kd.R_drew)); exact HO105.out) hb); have n1_ := Aside0.mk (Kd.S_lower ho0 (below_size (by repeat (first | (with_reducible first | exact HB.out | apply below_alloc | apply pw_below_drewN | apply below_drew1) | exact HB.out)))); have n2_ := Aside0.mk (below_step (by repeat (first | (with_reducible first | exact HB.out | apply below_alloc | apply pw_below_drewN | apply below_drew1) | exact HB.out)) hb); clear HO105; clear HB; have HO105 := n0_; have HO108 := n1_; have HB := n2_; clear n0_ n1_ n2_; (try clear hb); (try clear hb2); (try clear hk); (try clear hi); (try clear ho0); obtain ⟨Ao53, co53, eo53⟩ := Kd.R_slice HO105.out; subst eo53; obtain ⟨Ao54, co54, eo54⟩ := Kd.S_slice HO108.out; subst eo54) | ((with_reducible refine gate_callee (f := 24) rfl ?_); refine goesL_ (some 27) rfl rfl Try.func24 (by kernel_rfl) rfl #[.slice Ao53 t103.length co53, .slice Ao54 t106.length co54, .int .i64 a2] rfl (by (try simp only [aM1, aM2, aM3]); first | done | rfl | (simp only [List.length_drop, List.length_take]; rfl)) ?_; (with_reducible refine (spec_IsValidArchive.calls k _ _ t103 _ _ t106 a2 t109 _ ?side1 ?side2 ?side3 ?side4 A11.out).mono ?_); (case side1 => repeat (first | exact (Kd.R_reads' HO105.out).2.2 | (with_reducible refine Kd.C_alloc ?_ _) | (with_reducible refine Kd.C_drewN ?_ _) | (with_reducible refine Kd.C_drew ?_))); (case side2 => exact (Kd.R_reads' HO105.out).2.1); (case side3 => repeat (first | exact (Kd.S_reads' HO108.out).2.2 | (with_reducible refine Kd.C_alloc ?_ _) | (with_reducible refine Kd.C_drewN ?_ _) | (with_reducible refine Kd.C_drew ?_))); (case side4 => exact (Kd.S_reads' HO108.out).2.1); rintro e w55 ⟨rfl, hb⟩; refine ⟨_, rfl, ?_⟩; have n0_ := Aside0.mk (Kd.R_below (by (with_reducible repeat (first | apply Kd.R_alloc | apply Kd.R_drewN | apply Kd.R_drew)); exact HO105.out) hb); have n1_ := Aside0.mk (Kd.S_below (by (with_reducible repeat (first | apply Kd.S_alloc | apply Kd.S_drewN | apply Kd.S_drew)); exact HO108.out) hb); have n2_ := Aside0.mk (below_step (by repeat (first | (with_reducible first | exact HB.out | apply below_alloc | apply pw_below_drewN | apply below_drew1) | exact HB.out)) hb); clear HO105; clear HO108; clear HB; have HO105 := n0_; have HO108 := n1_; have HB := n2_; clear n0_ n1_ n2_; (try clear hb); (try clear hb2); (try clear hk); (try clear hi)) | ((with_reducible refine gate_callee (f := 21) rfl ?_); refine goesL_ (some 29) rfl rfl Try.func21 (by kernel_rfl) rfl #[.slice A0 l0.length c0] rfl (by (try simp only [aM1, aM2, aM3]); first | done | rfl | (simp only [List.length_drop, List.length_take]; rfl)) ?_; (with_reducible refine (laws_toItemS.calls k _ _ l0 t110 _ ?side1 ?side2 A12.out).mono ?_); (case side1 => repeat (first | exact (Kd.C_below HR0.out HB.out) | (with_reducible refine Kd.C_alloc ?_ _) | (with_reducible refine Kd.C_drewN ?_ _) | (with_reducible refine Kd.C_drew ?_))); (case side2 => exact HC0.out); rintro e w56 ⟨v111, rfl, ho0, hb⟩; refine ⟨_, rfl, ?_⟩; have n0_ := Aside0.mk (Kd.R_elder' (by (with_reducible repeat (first | apply Kd.R_alloc | apply Kd.R_drewN | apply Kd.R_drew)); exact HO105.out) (Kd.R_base ho0) hb); have n1_ := Aside0.mk (Kd.S_below (by (with_reducible repeat (first | apply Kd.S_alloc | apply Kd.S_drewN | apply Kd.S_drew)); exact HO108.out) hb); have n2_ := Aside0.mk (Kd.R_lower (Kd.R_new' ho0 (Kd.R_lt (by (with_reducible repeat (first | apply Kd.R_alloc | apply Kd.R_drewN | apply Kd.R_drew)); exact HO105.out))) (below_size (by repeat (first | (with_reducible first | exact HB.out | apply below_alloc | apply pw_below_drewN | apply below_drew1) | exact HB.out)))); have n3_ := Aside0.mk (below_step (by repeat (first | (with_reducible first | exact HB.out | apply below_alloc | apply pw_below_drewN | apply below_drew1) | exact HB.out)) hb); clear HO105; clear HO108; clear HB; have HO105 := n0_; have HO108 := n1_; have HO112 := n2_; have HB := n3_; clear n0_ n1_ n2_ n3_; (try clear hb); (try clear hb2); (try clear hk); (try clear hi); (try clear ho0)) | ((with_reducible refine gate_callee (f := 16) rfl ?_); refine goesL_ (some 31) rfl rfl Try.func16 (by kernel_rfl) rfl #[.slice A1 l1.length c1] rfl (by (try simp only [aM1, aM2, aM3]); first | done | rfl | (simp only [List.length_drop, List.length_take]; rfl)) ?_; (with_reducible refine (laws_toArchiveBoxS.calls k _ _ l1 t113 _ ?side1 ?side2 A13.out).mono ?_); (case side1 => repeat (first | exact (Kd.C_below HR1.out HB.out) | (with_reducible refine Kd.C_alloc ?_ _) | (with_reducible refine Kd.C_drewN ?_ _) | (with_reducible refine Kd.C_drew ?_))); (case side2 => exact HC1.out); rintro e w57 ⟨v114, rfl, ho0, hb⟩; refine ⟨_, rfl, ?_⟩; have n0_ := Aside0.mk (Kd.R_below (by (with_reducible repeat (first | apply Kd.R_alloc | apply Kd.R_drewN | apply Kd.R_drew)); exact HO105.out) hb); have n1_ := Aside0.mk (Kd.S_elder' (by (with_reducible repeat (first | apply Kd.S_alloc | apply Kd.S_drewN | apply Kd.S_drew)); exact HO108.out) (Kd.S_base ho0) hb); have n2_ := Aside0.mk (Kd.R_below (by (with_reducible repeat (first | apply Kd.R_alloc | apply Kd.R_drewN | apply Kd.R_drew)); exact HO112.out) hb); have n3_ := Aside0.mk (Kd.S_lower (Kd.S_new' ho0 (Kd.S_lt (by (with_reducible repeat (first | apply Kd.S_alloc | apply Kd.S_drewN | apply Kd.S_drew)); exact HO108.out))) (below_size (by repeat (first | (with_reducible first | exact HB.out | apply below_alloc | apply pw_below_drewN | apply below_drew1) | exact HB.out)))); have n4_ := Aside0.mk (below_step (by repeat (first | (with_reducible first | exact HB.out | apply below_alloc | apply pw_below_drewN | apply below_drew1) | exact HB.out)) hb); clear HO105; clear HO108; clear HO112; clear HB; have HO105 := n0_; have HO108 := n1_; have HO112 := n2_; have HO115 := n3_; have HB := n4_; clear n0_ n1_ n2_ n3_ n4_; (try clear hb); (try clear hb2); (try clear hk); (try clear hi); (try clear ho0); obtain ⟨Ao58, co58, eo58⟩ := Kd.R_slice HO112.out; subst eo58; obtain ⟨Ao59, co59, eo59⟩ := Kd.S_slice HO115.out; subst eo59) | ((with_reducible refine gate_callee (f := 25) rfl ?_); refine goesL_ (some 35) rfl rfl Try.func25 (by kernel_rfl) rfl #[.slice Ao58 t110.length co58, .slice Ao59 t113.length co59, .int .i64 a2] rfl (by (try simp only [aM1, aM2, aM3]); first | done | rfl | (simp only [List.length_drop, List.length_take]; rfl)) ?_; (with_reducible refine (impl_IsValidArchive.calls k _ _ t110 _ _ t113 a2 t116 _ ?side1 ?side2 ?side3 ?side4 A14.out).mono ?_); (case side1 => repeat (first | exact (Kd.R_reads' HO112.out).2.2 | (with_reducible refine Kd.C_alloc ?_ _) | (with_reducible refine Kd.C_drewN ?_ _) | (with_reducible refine Kd.C_drew ?_))); (case side2 => exact (Kd.R_reads' HO112.out).2.1); (case side3 => repeat (first | exact (Kd.S_reads' HO115.out).2.2 | (with_reducible refine Kd.C_alloc ?_ _) | (with_reducible refine Kd.C_drewN ?_ _) | (with_reducible refine Kd.C_drew ?_))); (case side4 => exact (Kd.S_reads' HO115.out).2.1); rintro e w60 ⟨rfl, hb⟩; refine ⟨_, rfl, ?_⟩; have n0_ := Aside0.mk (Kd.R_below (by (with_reducible repeat (first | apply Kd.R_alloc | apply Kd.R_drewN | apply Kd.R_drew)); exact HO105.out) hb); have n1_ := Aside0.mk (Kd.S_below (by (with_reducible repeat (first | apply Kd.S_alloc | apply Kd.S_drewN | apply Kd.S_drew)); exact HO108.out) hb); have n2_ := Aside0.mk (Kd.R_below (by (with_reducible repeat (first | apply Kd.R_alloc | apply Kd.R_drewN | apply Kd.R_drew)); exact HO112.out) hb); have n3_ := Aside0.mk (Kd.S_below (by (with_reducible repeat (first | apply Kd.S_alloc | apply Kd.S_drewN | apply Kd.S_drew)); exact HO115.out) hb); have n4_ := Aside0.mk (below_step (by repeat (first | (with_reducible first | exact HB.out | apply below_alloc | apply pw_below_drewN | apply below_drew1) | exact HB.out)) hb); clear HO105; clear HO108; clear HO112; clear HO115; clear HB; have HO105 := n0_; have HO108 := n1_; have HO112 := n2_; have HO115 := n3_; have HB := n4_; clear n0_ n1_ n2_ n3_ n4_; (try clear hb); (try clear hb2); (try clear hk); (try clear hi)) | ((with_reducible refine gate_callee (f := 21) rfl ?_); refine goesL_ (some 41) rfl rfl Try.func21 (by kernel_rfl) rfl #[.slice A0 l0.length c0] rfl (by (try simp only [aM1, aM2, aM3]); first | done | rfl | (simp only [List.length_drop, List.length_take]; rfl)) ?_; (with_reducible refine (laws_toItemS.calls k _ _ l0 t117 _ ?side1 ?side2 A27.out).mono ?_); (case side1 => repeat (first | exact (Kd.C_below HR0.out HB.out) | (with_reducible refine Kd.C_alloc ?_ _) | (with_reducible refine Kd.C_drewN ?_ _) | (with_reducible refine Kd.C_drew ?_))); (case side2 => exact HC0.out); rintro e w61 ⟨v118, rfl, ho0, hb⟩; refine ⟨_, rfl, ?_⟩; have n0_ := Aside0.mk (Kd.R_elder' (by (with_reducible repeat (first | apply Kd.R_alloc | apply Kd.R_drewN | apply Kd.R_drew)); exact HO105.out) (Kd.R_base ho0) hb); have n1_ := Aside0.mk (Kd.S_below (by (with_reducible repeat (first | apply Kd.S_alloc | apply Kd.S_drewN | apply Kd.S_drew)); exact HO108.out) hb); have n2_ := Aside0.mk (Kd.R_elder' (by (with_reducible repeat (first | apply Kd.R_alloc | apply Kd.R_drewN | apply Kd.R_drew)); exact HO112.out) (Kd.R_base ho0) hb); have n3_ := Aside0.mk (Kd.S_below (by (with_reducible repeat (first | apply Kd.S_alloc | apply Kd.S_drewN | apply Kd.S_drew)); exact HO115.out) hb); have n4_ := Aside0.mk (Kd.R_lower (Kd.R_new' (Kd.R_new' ho0 (Kd.R_lt (by (with_reducible repeat (first | apply Kd.R_alloc | apply Kd.R_drewN | apply Kd.R_drew)); exact HO105.out))) (Kd.R_lt (by (with_reducible repeat (first | apply Kd.R_alloc | apply Kd.R_drewN | apply Kd.R_drew)); exact HO112.out))) (below_size (by repeat (first | (with_reducible first | exact HB.out | apply below_alloc | apply pw_below_drewN | apply below_drew1) | exact HB.out)))); have n5_ := Aside0.mk (below_step (by repeat (first | (with_reducible first | exact HB.out | apply below_alloc | apply pw_below_drewN | apply below_drew1) | exact HB.out)) hb); clear HO105; clear HO108; clear HO112; clear HO115; clear HB; have HO105 := n0_; have HO108 := n1_; have HO112 := n2_; have HO115 := n3_; have HO119 := n4_; have HB := n5_; clear n0_ n1_ n2_ n3_ n4_ n5_; (try clear hb); (try clear hb2); (try clear hk); (try clear hi); (try clear ho0); obtain ⟨Ao62, co62, eo62⟩ := Kd.R_slice HO119.out; subst eo62) | ((with_reducible refine gate_callee (f := 23) rfl ?_); refine goesL_ (some 42) rfl rfl Try.func23 (by kernel_rfl) rfl #[.slice Ao58 t110.length co58, .slice Ao62 t117.length co62] rfl (by (try simp only [aM1, aM2, aM3]); first | done | rfl | (simp only [List.length_drop, List.length_take]; rfl)) ?_; (with_reducible refine (laws_eqItemS.calls k _ _ t110 _ _ t117 true _ ?side1 ?side2 ?side3 ?side4 A28.out).mono ?_); (case side1 => repeat (first | exact (Kd.R_reads' HO112.out).2.2 | (with_reducible refine Kd.C_alloc ?_ _) | (with_reducible refine Kd.C_drewN ?_ _) | (with_reducible refine Kd.C_drew ?_))); (case side2 => exact (Kd.R_reads' HO112.out).2.1); (case side3 => repeat (first | exact (Kd.R_reads' HO119.out).2.2 | (with_reducible refine Kd.C_alloc ?_ _) | (with_reducible refine Kd.C_drewN ?_ _) | (with_reducible refine Kd.C_drew ?_))); (case side4 => exact (Kd.R_reads' HO119.out).2.1); rintro e w63 ⟨rfl, hb⟩; refine ⟨_, rfl, ?_⟩; have n0_ := Aside0.mk (Kd.R_below (by (with_reducible repeat (first | apply Kd.R_alloc | apply Kd.R_drewN | apply Kd.R_drew)); exact HO105.out) hb); have n1_ := Aside0.mk (Kd.S_below (by (with_reducible repeat (first | apply Kd.S_alloc | apply Kd.S_drewN | apply Kd.S_drew)); exact HO108.out) hb); have n2_ := Aside0.mk (Kd.R_below (by (with_reducible repeat (first | apply Kd.R_alloc | apply Kd.R_drewN | apply Kd.R_drew)); exact HO112.out) hb); have n3_ := Aside0.mk (Kd.S_below (by (with_reducible repeat (first | apply Kd.S_alloc | apply Kd.S_drewN | apply Kd.S_drew)); exact HO115.out) hb); have n4_ := Aside0.mk (Kd.R_below (by (with_reducible repeat (first | apply Kd.R_alloc | apply Kd.R_drewN | apply Kd.R_drew)); exact HO119.out) hb); have n5_ := Aside0.mk (below_step (by repeat (first | (with_reducible first | exact HB.out | apply below_alloc | apply pw_below_drewN | apply below_drew1) | exact HB.out)) hb); clear HO105; clear HO108; clear HO112; clear HO115; clear HO119; clear HB; have HO105 := n0_; have HO108 := n1_; have HO112 := n2_; have HO115 := n3_; have HO119 := n4_; have HB := n5_; clear n0_ n1_ n2_ n3_ n4_ n5_; (try clear hb); (try clear hb2); (try clear hk); (try clear hi)) | ((with_reducible refine gate_callee (f := 16) rfl ?_); refine goesL_ (some 46) rfl rfl Try.func16 (by kernel_rfl) rfl #[.slice A1 l1.length c1] rfl (by (try simp only [aM1, aM2, aM3]); first | done | rfl | (simp only [List.length_drop, List.length_take]; rfl)) ?_; (with_reducible refine (laws_toArchiveBoxS.calls k _ _ l1 t121 _ ?side1 ?side2 A30.out).mono ?_); (case side1 => repeat (first | exact (Kd.C_below HR1.out HB.out) | (with_reducible refine Kd.C_alloc ?_ _) | (with_reducible refine Kd.C_drewN ?_ _) | (with_reducible refine Kd.C_drew ?_))); (case side2 => exact HC1.out); rintro e w64 ⟨v122, rfl, ho0, hb⟩; refine ⟨_, rfl, ?_⟩; have n0_ := Aside0.mk (Kd.R_below (by (with_reducible repeat (first | apply Kd.R_alloc | apply Kd.R_drewN | apply Kd.R_drew)); exact HO105.out) hb); have n1_ := Aside0.mk (Kd.S_elder' (by (with_reducible repeat (first | apply Kd.S_alloc | apply Kd.S_drewN | apply Kd.S_drew)); exact HO108.out) (Kd.S_base ho0) hb); have n2_ := Aside0.mk (Kd.R_below (by (with_reducible repeat (first | apply Kd.R_alloc | apply Kd.R_drewN | apply Kd.R_drew)); exact HO112.out) hb); have n3_ := Aside0.mk (Kd.S_elder' (by (with_reducible repeat (first | apply Kd.S_alloc | apply Kd.S_drewN | apply Kd.S_drew)); exact HO115.out) (Kd.S_base ho0) hb); have n4_ := Aside0.mk (Kd.R_below (by (with_reducible repeat (first | apply Kd.R_alloc | apply Kd.R_drewN | apply Kd.R_drew)); exact HO119.out) hb); have n5_ := Aside0.mk (Kd.S_lower (Kd.S_new' (Kd.S_new' ho0 (Kd.S_lt (by (with_reducible repeat (first | apply Kd.S_alloc | apply Kd.S_drewN | apply Kd.S_drew)); exact HO108.out))) (Kd.S_lt (by (with_reducible repeat (first | apply Kd.S_alloc | apply Kd.S_drewN | apply Kd.S_drew)); exact HO115.out))) (below_size (by repeat (first | (with_reducible first | exact HB.out | apply below_alloc | apply pw_below_drewN | apply below_drew1) | exact HB.out)))); have n6_ := Aside0.mk (below_step (by repeat (first | (with_reducible first | exact HB.out | apply below_alloc | apply pw_below_drewN | apply below_drew1) | exact HB.out)) hb); clear HO105; clear HO108; clear HO112; clear HO115; clear HO119; clear HB; have HO105 := n0_; have HO108 := n1_; have HO112 := n2_; have HO115 := n3_; have HO119 := n4_; have HO123 := n5_; have HB := n6_; clear n0_ n1_ n2_ n3_ n4_ n5_ n6_; (try clear hb); (try clear hb2); (try clear hk); (try clear hi); (try clear ho0); obtain ⟨Ao65, co65, eo65⟩ := Kd.S_slice HO123.out; subst eo65) | ((with_reducible refine gate_callee (f := 18) rfl ?_); refine goesL_ (some 47) rfl rfl Try.func18 (by kernel_rfl) rfl #[.slice Ao59 t113.length co59, .slice Ao65 t121.length co65] rfl (by (try simp only [aM1, aM2, aM3]); first | done | rfl | (simp only [List.length_drop, List.length_take]; rfl)) ?_; (with_reducible refine (laws_eqArchiveBoxS.calls k _ _ t113 _ _ t121 false _ ?side1 ?side2 ?side3 ?side4 A31.out).mono ?_); (case side1 => repeat (first | exact (Kd.S_reads' HO115.out).2.2 | (with_reducible refine Kd.C_alloc ?_ _) | (with_reducible refine Kd.C_drewN ?_ _) | (with_reducible refine Kd.C_drew ?_))); (case side2 => exact (Kd.S_reads' HO115.out).2.1); (case side3 => repeat (first | exact (Kd.S_reads' HO123.out).2.2 | (with_reducible refine Kd.C_alloc ?_ _) | (with_reducible refine Kd.C_drewN ?_ _) | (with_reducible refine Kd.C_drew ?_))); (case side4 => exact (Kd.S_reads' HO123.out).2.1); rintro e w66 ⟨rfl, hb⟩; refine ⟨_, rfl, ?_⟩; have n0_ := Aside0.mk (Kd.R_below (by (with_reducible repeat (first | apply Kd.R_alloc | apply Kd.R_drewN | apply Kd.R_drew)); exact HO105.out) hb); have n1_ := Aside0.mk (Kd.S_below (by (with_reducible repeat (first | apply Kd.S_alloc | apply Kd.S_drewN | apply Kd.S_drew)); exact HO108.out) hb); have n2_ := Aside0.mk (Kd.R_below (by (with_reducible repeat (first | apply Kd.R_alloc | apply Kd.R_drewN | apply Kd.R_drew)); exact HO112.out) hb); have n3_ := Aside0.mk (Kd.S_below (by (with_reducible repeat (first | apply Kd.S_alloc | apply Kd.S_drewN | apply Kd.S_drew)); exact HO115.out) hb); have n4_ := Aside0.mk (Kd.R_below (by (with_reducible repeat (first | apply Kd.R_alloc | apply Kd.R_drewN | apply Kd.R_drew)); exact HO119.out) hb); have n5_ := Aside0.mk (Kd.S_below (by (with_reducible repeat (first | apply Kd.S_alloc | apply Kd.S_drewN | apply Kd.S_drew)); exact HO123.out) hb); have n6_ := Aside0.mk (below_step (by repeat (first | (with_reducible first | exact HB.out | apply below_alloc | apply pw_below_drewN | apply below_drew1) | exact HB.out)) hb); clear HO105; clear HO108; clear HO112; clear HO115; clear HO119; clear HO123; clear HB; have HO105 := n0_; have HO108 := n1_; have HO112 := n2_; have HO115 := n3_; have HO119 := n4_; have HO123 := n5_; have HB := n6_; clear n0_ n1_ n2_ n3_ n4_ n5_ n6_; (try clear hb); (try clear hb2); (try clear hk); (try clear hi)))
      go_ret
      exact ⟨by first | rfl | (simp [errW_none, errW_some] <;> rfl) | (simp [*, errW_none, errW_some] <;> rfl), by repeat (first | (with_reducible first | exact HB.out | apply below_alloc | apply pw_below_drewN | apply below_drew1) | exact HB.out)⟩
    ·replace c29 := Bool.eq_false_iff.mpr c29
     subst c29
     have H1 : (some false) = some r := by rw [if_neg (show ¬ (false = true) by decide)] at H; exact H
     clear H
     have H := H1
     clear H1
     obtain rfl := Option.some.inj H
     go_enter Try.func6, Try.ntmps6
     go_wp2_with (first | ((with_reducible refine gate_callee (f := 19) rfl ?_); refine goesL_ (some 14) rfl rfl Try.func19 (by kernel_rfl) rfl #[.slice A0 l0.length c0, .int .i64 1048576] rfl (by (try simp only [aM1, aM2, aM3]); first | done | rfl | (simp only [List.length_drop, List.length_take]; rfl)) ?_; (with_reducible refine (laws_szItemS.calls _ _ l0 1048576 t101 _ ?side1 ?side2 A4.out).mono ?_); (case side1 => repeat (first | exact HR0.out | (with_reducible refine Kd.C_alloc ?_ _) | (with_reducible refine Kd.C_drewN ?_ _) | (with_reducible refine Kd.C_drew ?_))); (case side2 => exact HC0.out); rintro e w' ⟨rfl, ⟨nd, rfl⟩⟩; refine ⟨_, rfl, ?_⟩) | ((with_reducible refine gate_callee (f := 14) rfl ?_); refine goesL_ (some 19) rfl rfl Try.func14 (by kernel_rfl) rfl #[.slice A1 l1.length c1, .int .i64 t101] rfl (by (try simp only [aM1, aM2, aM3]); first | done | rfl | (simp only [List.length_drop, List.length_take]; rfl)) ?_; (with_reducible refine (laws_szArchiveBoxS.calls k _ _ l1 t101 t102 _ ?side1 ?side2 A6.out).mono ?_); (case side1 => repeat (first | exact HR1.out | (with_reducible refine Kd.C_alloc ?_ _) | (with_reducible refine Kd.C_drewN ?_ _) | (with_reducible refine Kd.C_drew ?_))); (case side2 => exact HC1.out); rintro e w67 ⟨rfl, hb⟩; refine ⟨_, rfl, ?_⟩; have n0_ := Aside0.mk (below_step (by repeat (first | (with_reducible first | exact HB.out | apply below_alloc | apply pw_below_drewN | apply below_drew1) | exact HB.out)) hb); clear HB; have HB := n0_; clear n0_; (try clear hb); (try clear hb2); (try clear hk); (try clear hi)) | ((with_reducible refine gate_callee (f := 21) rfl ?_); refine goesL_ (some 23) rfl rfl Try.func21 (by kernel_rfl) rfl #[.slice A0 l0.length c0] rfl (by (try simp only [aM1, aM2, aM3]); first | done | rfl | (simp only [List.length_drop, List.length_take]; rfl)) ?_; (with_reducible refine (laws_toItemS.calls k _ _ l0 t103 _ ?side1 ?side2 A9.out).mono ?_); (case side1 => repeat (first | exact (Kd.C_below HR0.out HB.out) | (with_reducible refine Kd.C_alloc ?_ _) | (with_reducible refine Kd.C_drewN ?_ _) | (with_reducible refine Kd.C_drew ?_))); (case side2 => exact HC0.out); rintro e w68 ⟨v104, rfl, ho0, hb⟩; refine ⟨_, rfl, ?_⟩; have n0_ := Aside0.mk (Kd.R_lower ho0 (below_size (by repeat (first | (with_reducible first | exact HB.out | apply below_alloc | apply pw_below_drewN | apply below_drew1) | exact HB.out)))); have n1_ := Aside0.mk (below_step (by repeat (first | (with_reducible first | exact HB.out | apply below_alloc | apply pw_below_drewN | apply below_drew1) | exact HB.out)) hb); clear HB; have HO105 := n0_; have HB := n1_; clear n0_ n1_; (try clear hb); (try clear hb2); (try clear hk); (try clear hi); (try clear ho0)) | ((with_reducible refine gate_callee (f := 16) rfl ?_); refine goesL_ (some 25) rfl rfl Try.func16 (by kernel_rfl) rfl #[.slice A1 l1.length c1] rfl (by (try simp only [aM1, aM2, aM3]); first | done | rfl | (simp only [List.length_drop, List.length_take]; rfl)) ?_; (with_reducible refine (laws_toArchiveBoxS.calls k _ _ l1 t106 _ ?side1 ?side2 A10.out).mono ?_); (case side1 => repeat (first | exact (Kd.C_below HR1.out HB.out) | (with_reducible refine Kd.C_alloc ?_ _) | (with_reducible refine Kd.C_drewN ?_ _) | (with_reducible refine Kd.C_drew ?_))); (case side2 => exact HC1.out); rintro e w69 ⟨v107, rfl, ho0, hb⟩; refine ⟨_, rfl, ?_⟩; have n0_ := Aside0.mk (Kd.R_below (by (with_reducible repeat (first | apply Kd.R_alloc | apply Kd.R_drewN | apply Kd.R_drew)); exact HO105.out) hb); have n1_ := Aside0.mk (Kd.S_lower ho0 (below_size (by repeat (first | (with_reducible first | exact HB.out | apply below_alloc | apply pw_below_drewN | apply below_drew1) | exact HB.out)))); have n2_ := Aside0.mk (below_step (by repeat (first | (with_reducible first | exact HB.out | apply below_alloc | apply pw_below_drewN | apply below_drew1) | exact HB.out)) hb); clear HO105; clear HB; have HO105 := n0_; have HO108 := n1_; have HB := n2_; clear n0_ n1_ n2_; (try clear hb); (try clear hb2); (try clear hk); (try clear hi); (try clear ho0); obtain ⟨Ao70, co70, eo70⟩ := Kd.R_slice HO105.out; subst eo70; obtain ⟨Ao71, co71, eo71⟩ := Kd.S_slice HO108.out; subst eo71) | ((with_reducible refine gate_callee (f := 24) rfl ?_); refine goesL_ (some 27) rfl rfl Try.func24 (by kernel_rfl) rfl #[.slice Ao70 t103.length co70, .slice Ao71 t106.length co71, .int .i64 a2] rfl (by (try simp only [aM1, aM2, aM3]); first | done | rfl | (simp only [List.length_drop, List.length_take]; rfl)) ?_; (with_reducible refine (spec_IsValidArchive.calls k _ _ t103 _ _ t106 a2 t109 _ ?side1 ?side2 ?side3 ?side4 A11.out).mono ?_); (case side1 => repeat (first | exact (Kd.R_reads' HO105.out).2.2 | (with_reducible refine Kd.C_alloc ?_ _) | (with_reducible refine Kd.C_drewN ?_ _) | (with_reducible refine Kd.C_drew ?_))); (case side2 => exact (Kd.R_reads' HO105.out).2.1); (case side3 => repeat (first | exact (Kd.S_reads' HO108.out).2.2 | (with_reducible refine Kd.C_alloc ?_ _) | (with_reducible refine Kd.C_drewN ?_ _) | (with_reducible refine Kd.C_drew ?_))); (case side4 => exact (Kd.S_reads' HO108.out).2.1); rintro e w72 ⟨rfl, hb⟩; refine ⟨_, rfl, ?_⟩; have n0_ := Aside0.mk (Kd.R_below (by (with_reducible repeat (first | apply Kd.R_alloc | apply Kd.R_drewN | apply Kd.R_drew)); exact HO105.out) hb); have n1_ := Aside0.mk (Kd.S_below (by (with_reducible repeat (first | apply Kd.S_alloc | apply Kd.S_drewN | apply Kd.S_drew)); exact HO108.out) hb); have n2_ := Aside0.mk (below_step (by repeat (first | (with_reducible first | exact HB.out | apply below_alloc | apply pw_below_drewN | apply below_drew1) | exact HB.out)) hb); clear HO105; clear HO108; clear HB; have HO105 := n0_; have HO108 := n1_; have HB := n2_; clear n0_ n1_ n2_; (try clear hb); (try clear hb2); (try clear hk); (try clear hi)) | ((with_reducible refine gate_callee (f := 21) rfl ?_); refine goesL_ (some 29) rfl rfl Try.func21 (by kernel_rfl) rfl #[.slice A0 l0.length c0] rfl (by (try simp only [aM1, aM2, aM3]); first | done | rfl | (simp only [List.length_drop, List.length_take]; rfl)) ?_; (with_reducible refine (laws_toItemS.calls k _ _ l0 t110 _ ?side1 ?side2 A12.out).mono ?_); (case side1 => repeat (first | exact (Kd.C_below HR0.out HB.out) | (with_reducible refine Kd.C_alloc ?_ _) | (with_reducible refine Kd.C_drewN ?_ _) | (with_reducible refine Kd.C_drew ?_))); (case side2 => exact HC0.out); rintro e w73 ⟨v111, rfl, ho0, hb⟩; refine ⟨_, rfl, ?_⟩; have n0_ := Aside0.mk (Kd.R_elder' (by (with_reducible repeat (first | apply Kd.R_alloc | apply Kd.R_drewN | apply Kd.R_drew)); exact HO105.out) (Kd.R_base ho0) hb); have n1_ := Aside0.mk (Kd.S_below (by (with_reducible repeat (first | apply Kd.S_alloc | apply Kd.S_drewN | apply Kd.S_drew)); exact HO108.out) hb); have n2_ := Aside0.mk (Kd.R_lower (Kd.R_new' ho0 (Kd.R_lt (by (with_reducible repeat (first | apply Kd.R_alloc | apply Kd.R_drewN | apply Kd.R_drew)); exact HO105.out))) (below_size (by repeat (first | (with_reducible first | exact HB.out | apply below_alloc | apply pw_below_drewN | apply below_drew1) | exact HB.out)))); have n3_ := Aside0.mk (below_step (by repeat (first | (with_reducible first | exact HB.out | apply below_alloc | apply pw_below_drewN | apply below_drew1) | exact HB.out)) hb); clear HO105; clear HO108; clear HB; have HO105 := n0_; have HO108 := n1_; have HO112 := n2_; have HB := n3_; clear n0_ n1_ n2_ n3_; (try clear hb); (try clear hb2); (try clear hk); (try clear hi); (try clear ho0)) | ((with_reducible refine gate_callee (f := 16) rfl ?_); refine goesL_ (some 31) rfl rfl Try.func16 (by kernel_rfl) rfl #[.slice A1 l1.length c1] rfl (by (try simp only [aM1, aM2, aM3]); first | done | rfl | (simp only [List.length_drop, List.length_take]; rfl)) ?_; (with_reducible refine (laws_toArchiveBoxS.calls k _ _ l1 t113 _ ?side1 ?side2 A13.out).mono ?_); (case side1 => repeat (first | exact (Kd.C_below HR1.out HB.out) | (with_reducible refine Kd.C_alloc ?_ _) | (with_reducible refine Kd.C_drewN ?_ _) | (with_reducible refine Kd.C_drew ?_))); (case side2 => exact HC1.out); rintro e w74 ⟨v114, rfl, ho0, hb⟩; refine ⟨_, rfl, ?_⟩; have n0_ := Aside0.mk (Kd.R_below (by (with_reducible repeat (first | apply Kd.R_alloc | apply Kd.R_drewN | apply Kd.R_drew)); exact HO105.out) hb); have n1_ := Aside0.mk (Kd.S_elder' (by (with_reducible repeat (first | apply Kd.S_alloc | apply Kd.S_drewN | apply Kd.S_drew)); exact HO108.out) (Kd.S_base ho0) hb); have n2_ := Aside0.mk (Kd.R_below (by (with_reducible repeat (first | apply Kd.R_alloc | apply Kd.R_drewN | apply Kd.R_drew)); exact HO112.out) hb); have n3_ := Aside0.mk (Kd.S_lower (Kd.S_new' ho0 (Kd.S_lt (by (with_reducible repeat (first | apply Kd.S_alloc | apply Kd.S_drewN | apply Kd.S_drew)); exact HO108.out))) (below_size (by repeat (first | (with_reducible first | exact HB.out | apply below_alloc | apply pw_below_drewN | apply below_drew1) | exact HB.out)))); have n4_ := Aside0.mk (below_step (by repeat (first | (with_reducible first | exact HB.out | apply below_alloc | apply pw_below_drewN | apply below_drew1) | exact HB.out)) hb); clear HO105; clear HO108; clear HO112; clear HB; have HO105 := n0_; have HO108 := n1_; have HO112 := n2_; have HO115 := n3_; have HB := n4_; clear n0_ n1_ n2_ n3_ n4_; (try clear hb); (try clear hb2); (try clear hk); (try clear hi); (try clear ho0); obtain ⟨Ao75, co75, eo75⟩ := Kd.R_slice HO112.out; subst eo75; obtain ⟨Ao76, co76, eo76⟩ := Kd.S_slice HO115.out; subst eo76) | ((with_reducible refine gate_callee (f := 25) rfl ?_); refine goesL_ (some 35) rfl rfl Try.func25 (by kernel_rfl) rfl #[.slice Ao75 t110.length co75, .slice Ao76 t113.length co76, .int .i64 a2] rfl (by (try simp only [aM1, aM2, aM3]); first | done | rfl | (simp only [List.length_drop, List.length_take]; rfl)) ?_; (with_reducible refine (impl_IsValidArchive.calls k _ _ t110 _ _ t113 a2 t116 _ ?side1 ?side2 ?side3 ?side4 A14.out).mono ?_); (case side1 => repeat (first | exact (Kd.R_reads' HO112.out).2.2 | (with_reducible refine Kd.C_alloc ?_ _) | (with_reducible refine Kd.C_drewN ?_ _) | (with_reducible refine Kd.C_drew ?_))); (case side2 => exact (Kd.R_reads' HO112.out).2.1); (case side3 => repeat (first | exact (Kd.S_reads' HO115.out).2.2 | (with_reducible refine Kd.C_alloc ?_ _) | (with_reducible refine Kd.C_drewN ?_ _) | (with_reducible refine Kd.C_drew ?_))); (case side4 => exact (Kd.S_reads' HO115.out).2.1); rintro e w77 ⟨rfl, hb⟩; refine ⟨_, rfl, ?_⟩; have n0_ := Aside0.mk (Kd.R_below (by (with_reducible repeat (first | apply Kd.R_alloc | apply Kd.R_drewN | apply Kd.R_drew)); exact HO105.out) hb); have n1_ := Aside0.mk (Kd.S_below (by (with_reducible repeat (first | apply Kd.S_alloc | apply Kd.S_drewN | apply Kd.S_drew)); exact HO108.out) hb); have n2_ := Aside0.mk (Kd.R_below (by (with_reducible repeat (first | apply Kd.R_alloc | apply Kd.R_drewN | apply Kd.R_drew)); exact HO112.out) hb); have n3_ := Aside0.mk (Kd.S_below (by (with_reducible repeat (first | apply Kd.S_alloc | apply Kd.S_drewN | apply Kd.S_drew)); exact HO115.out) hb); have n4_ := Aside0.mk (below_step (by repeat (first | (with_reducible first | exact HB.out | apply below_alloc | apply pw_below_drewN | apply below_drew1) | exact HB.out)) hb); clear HO105; clear HO108; clear HO112; clear HO115; clear HB; have HO105 := n0_; have HO108 := n1_; have HO112 := n2_; have HO115 := n3_; have HB := n4_; clear n0_ n1_ n2_ n3_ n4_; (try clear hb); (try clear hb2); (try clear hk); (try clear hi)) | ((with_reducible refine gate_callee (f := 21) rfl ?_); refine goesL_ (some 41) rfl rfl Try.func21 (by kernel_rfl) rfl #[.slice A0 l0.length c0] rfl (by (try simp only [aM1, aM2, aM3]); first | done | rfl | (simp only [List.length_drop, List.length_take]; rfl)) ?_; (with_reducible refine (laws_toItemS.calls k _ _ l0 t117 _ ?side1 ?side2 A27.out).mono ?_); (case side1 => repeat (first | exact (Kd.C_below HR0.out HB.out) | (with_reducible refine Kd.C_alloc ?_ _) | (with_reducible refine Kd.C_drewN ?_ _) | (with_reducible refine Kd.C_drew ?_))); (case side2 => exact HC0.out); rintro e w78 ⟨v118, rfl, ho0, hb⟩; refine ⟨_, rfl, ?_⟩; have n0_ := Aside0.mk (Kd.R_elder' (by (with_reducible repeat (first | apply Kd.R_alloc | apply Kd.R_drewN | apply Kd.R_drew)); exact HO105.out) (Kd.R_base ho0) hb); have n1_ := Aside0.mk (Kd.S_below (by (with_reducible repeat (first | apply Kd.S_alloc | apply Kd.S_drewN | apply Kd.S_drew)); exact HO108.out) hb); have n2_ := Aside0.mk (Kd.R_elder' (by (with_reducible repeat (first | apply Kd.R_alloc | apply Kd.R_drewN | apply Kd.R_drew)); exact HO112.out) (Kd.R_base ho0) hb); have n3_ := Aside0.mk (Kd.S_below (by (with_reducible repeat (first | apply Kd.S_alloc | apply Kd.S_drewN | apply Kd.S_drew)); exact HO115.out) hb); have n4_ := Aside0.mk (Kd.R_lower (Kd.R_new' (Kd.R_new' ho0 (Kd.R_lt (by (with_reducible repeat (first | apply Kd.R_alloc | apply Kd.R_drewN | apply Kd.R_drew)); exact HO105.out))) (Kd.R_lt (by (with_reducible repeat (first | apply Kd.R_alloc | apply Kd.R_drewN | apply Kd.R_drew)); exact HO112.out))) (below_size (by repeat (first | (with_reducible first | exact HB.out | apply below_alloc | apply pw_below_drewN | apply below_drew1) | exact HB.out)))); have n5_ := Aside0.mk (below_step (by repeat (first | (with_reducible first | exact HB.out | apply below_alloc | apply pw_below_drewN | apply below_drew1) | exact HB.out)) hb); clear HO105; clear HO108; clear HO112; clear HO115; clear HB; have HO105 := n0_; have HO108 := n1_; have HO112 := n2_; have HO115 := n3_; have HO119 := n4_; have HB := n5_; clear n0_ n1_ n2_ n3_ n4_ n5_; (try clear hb); (try clear hb2); (try clear hk); (try clear hi); (try clear ho0); obtain ⟨Ao79, co79, eo79⟩ := Kd.R_slice HO119.out; subst eo79) | ((with_reducible refine gate_callee (f := 23) rfl ?_); refine goesL_ (some 42) rfl rfl Try.func23 (by kernel_rfl) rfl #[.slice Ao75 t110.length co75, .slice Ao79 t117.length co79] rfl (by (try simp only [aM1, aM2, aM3]); first | done | rfl | (simp only [List.length_drop, List.length_take]; rfl)) ?_; (with_reducible refine (laws_eqItemS.calls k _ _ t110 _ _ t117 false _ ?side1 ?side2 ?side3 ?side4 A28.out).mono ?_); (case side1 => repeat (first | exact (Kd.R_reads' HO112.out).2.2 | (with_reducible refine Kd.C_alloc ?_ _) | (with_reducible refine Kd.C_drewN ?_ _) | (with_reducible refine Kd.C_drew ?_))); (case side2 => exact (Kd.R_reads' HO112.out).2.1); (case side3 => repeat (first | exact (Kd.R_reads' HO119.out).2.2 | (with_reducible refine Kd.C_alloc ?_ _) | (with_reducible refine Kd.C_drewN ?_ _) | (with_reducible refine Kd.C_drew ?_))); (case side4 => exact (Kd.R_reads' HO119.out).2.1); rintro e w80 ⟨rfl, hb⟩; refine ⟨_, rfl, ?_⟩; have n0_ := Aside0.mk (Kd.R_below (by (with_reducible repeat (first | apply Kd.R_alloc | apply Kd.R_drewN | apply Kd.R_drew)); exact HO105.out) hb); have n1_ := Aside0.mk (Kd.S_below (by (with_reducible repeat (first | apply Kd.S_alloc | apply Kd.S_drewN | apply Kd.S_drew)); exact HO108.out) hb); have n2_ := Aside0.mk (Kd.R_below (by (with_reducible repeat (first | apply Kd.R_alloc | apply Kd.R_drewN | apply Kd.R_drew)); exact HO112.out) hb); have n3_ := Aside0.mk (Kd.S_below (by (with_reducible repeat (first | apply Kd.S_alloc | apply Kd.S_drewN | apply Kd.S_drew)); exact HO115.out) hb); have n4_ := Aside0.mk (Kd.R_below (by (with_reducible repeat (first | apply Kd.R_alloc | apply Kd.R_drewN | apply Kd.R_drew)); exact HO119.out) hb); have n5_ := Aside0.mk (below_step (by repeat (first | (with_reducible first | exact HB.out | apply below_alloc | apply pw_below_drewN | apply below_drew1) | exact HB.out)) hb); clear HO105; clear HO108; clear HO112; clear HO115; clear HO119; clear HB; have HO105 := n0_; have HO108 := n1_; have HO112 := n2_; have HO115 := n3_; have HO119 := n4_; have HB := n5_; clear n0_ n1_ n2_ n3_ n4_ n5_; (try clear hb); (try clear hb2); (try clear hk); (try clear hi)))
     go_ret
     exact ⟨by first | rfl | (simp [errW_none, errW_some] <;> rfl) | (simp [*, errW_none, errW_some] <;> rfl), by repeat (first | (with_reducible first | exact HB.out | apply below_alloc | apply pw_below_drewN | apply below_drew1) | exact HB.out)⟩

end Go.Proofs.Ytdhndojmekcjhaa.X
set_option linter.unusedVariables false
namespace Go.Proofs.Ytdhndojmekcjhaa.Open
open Go.RowKit Go.Proofs.YtdhndojmekcjhaaW.PrintWords

/-- What reads at type t is of kind d, and good. -/
def Opens (P : Program) (t : TypeId) {α : Type} (d : Kd α) (good : α → Prop) : Prop :=
  ∀ (H : Type) (enc : TypeId × Value → H) (w : World) (fuel : Nat) (cs : List Value) (x : DataW H × List MemPlace),
    DataW.trod enc P w 0 (fun _ => true) true fuel t cs = some x → ∃ a, d.K w a cs ∧ good a

theorem Opens.weak {P : Program} {t : TypeId} {α : Type} {d : Kd α} {good good' : α → Prop} (h : Opens P t d good) (hg : ∀ a, good a → good' a) : Opens P t d good' := by
  intro H enc w fuel cs x hx
  obtain ⟨a, h1, h2⟩ := h H enc w fuel cs x hx
  exact ⟨a, h1, hg a h2⟩

theorem opens_int {P : Program} {t : TypeId} {k : IntKind} (ht : P.underlying t = some (.int k)) : Opens P t (Kd.int k) (fun n => (Lit.int k n).wf = true) := by
  intro H enc w fuel cs x hx
  obtain ⟨n, rfl, _, hw⟩ := DataW.trod_int ht hx
  exact ⟨n, rfl, hw⟩
theorem opens_bool {P : Program} {t : TypeId} (ht : P.underlying t = some .bool) : Opens P t Kd.bool (fun _ => True) := by
  intro H enc w fuel cs x hx
  obtain ⟨n, rfl, _⟩ := DataW.trod_bool ht hx
  exact ⟨n, rfl, trivial⟩
theorem opens_string {P : Program} {t : TypeId} (ht : P.underlying t = some .string) : Opens P t Kd.string (fun s => s.size ≤ 9223372036854775807) := by
  intro H enc w fuel cs x hx
  obtain ⟨n, rfl, _, hw⟩ := DataW.trod_string ht hx
  exact ⟨n, rfl, by simpa [maxLen] using hw⟩

theorem cells_each {w : World} {a : Addr} {n : Nat} {cs : List Value} (h : w.cells? 0 a n = some cs) : cs.length = n ∧ ∀ i u, cs[i]? = some u → w.cell? (a.add i) = some u := by
  have h1 := World.cells?_some h
  refine ⟨h1.2.1, fun i u hu => ?_⟩
  have hi : i < n := by
    have := (List.getElem?_eq_some_iff.1 hu).1
    omega
  rw [h1.2.2 i hi, hu]

theorem opens_slice {P : Program} {t e : TypeId} {α : Type} {d : Kd α} {g : α → Prop} (ht : P.underlying t = some (.slice e)) (hsz : P.cellsOf e = d.sz) (h : Opens P e d g) :
    Opens P t (Kd.slice e d) (fun xs => xs.length ≤ 9223372036854775807 ∧ ∀ x ∈ xs, g x) := by
  intro H enc w fuel cs x hx
  rcases DataW.trod_slice ht hx with ⟨rfl, _⟩ | ⟨a, len, cap, elems, rest, n, rfl, rfl, _, _, hlc, hcap, hel, hget, _, _⟩
  · exact ⟨[], ⟨none, 0, rfl, Nat.le_refl _, Kd.C_nil d w⟩, by simp, by simp⟩
  · simp only [maxLen] at hcap
    have each : ∀ i, i < len → ∃ b : α, ∃ c : List Value, c.length = d.sz ∧ d.K w b c ∧ g b ∧ ∀ j u, c[j]? = some u → w.cell? (a.add (i * d.sz + j)) = some u := by
      intro i hi
      have h1 := hget i hi
      obtain ⟨y, hy⟩ : ∃ y, elems[i]? = some y := ⟨_, List.getElem?_eq_getElem (by omega)⟩
      rw [hy] at h1
      obtain ⟨c, hc, ht'⟩ := Option.bind_eq_some_iff.1 h1
      obtain ⟨b, hK, hg⟩ := h H enc w n c y ht'
      obtain ⟨hl, hcell⟩ := cells_each hc
      refine ⟨b, c, hl.trans hsz, hK, hg, fun j u hu => ?_⟩
      have := hcell j u hu
      rw [Deep.add_add, hsz] at this
      exact this
    have mk : ∀ m, m ≤ len → ∃ xs : List α, xs.length = m ∧ (∀ x ∈ xs, g x) ∧ ∀ j p, xs[j]? = some p → ∃ c, c.length = d.sz ∧ d.K w p c ∧ ∀ i u, c[i]? = some u → w.cell? (a.add (j * d.sz + i)) = some u := by
      intro m
      induction m with
      | zero => exact fun _ => ⟨[], rfl, by simp, by simp⟩
      | succ m ih =>
        intro hm
        obtain ⟨xs, hl, hg, hx⟩ := ih (by omega)
        obtain ⟨b, c, hc1, hc2, hc3, hc4⟩ := each m (by omega)
        refine ⟨xs ++ [b], by simp [hl], ?_, ?_⟩
        · intro x hx'
          rcases List.mem_append.1 hx' with hx' | hx'
          · exact hg x hx'
          · rw [List.mem_singleton.1 hx']; exact hc3
        · intro j p hj
          by_cases hjm : j < m
          · rw [List.getElem?_append_left (by omega)] at hj
            exact hx j p hj
          · have hlt := (List.getElem?_eq_some_iff.1 hj).1
            simp only [List.length_append, List.length_cons, List.length_nil] at hlt
            obtain rfl : j = m := by omega
            rw [List.getElem?_append_right (by omega), hl, Nat.sub_self] at hj
            simp only [List.getElem?_cons_zero, Option.some.injEq] at hj
            subst hj
            exact ⟨c, hc1, hc2, hc4⟩
    obtain ⟨ys, hl, hg, hy⟩ := mk len (Nat.le_refl _)
    subst hl
    exact ⟨ys, ⟨some a, cap, rfl, hlc, rfl, by omega, fun _ => ⟨a, rfl, hy⟩⟩, by omega, hg⟩

/-! A struct: its fields in line. -/
def offs (L : List (TypeId × Nat)) (i : Nat) : Nat := ((L.take i).map (·.2)).sum
def Sect (P : Program) (L : List (TypeId × Nat)) {α : Type} (d : Kd α) (good : α → Prop) : Prop :=
  ∀ (H : Type) (enc : TypeId × Value → H) (w : World) (n : Nat) (cs : List Value), cs.length = (L.map (·.2)).sum →
    (∀ i p, L[i]? = some p → ∃ y, DataW.trod enc P w 0 (fun _ => true) true n p.1 ((cs.drop (offs L i)).take p.2) = some y) → ∃ a, d.K w a cs ∧ good a
theorem sect_one {P : Program} {t : TypeId} {s : Nat} {α : Type} {d : Kd α} {g : α → Prop} (h : Opens P t d g) : Sect P [(t, s)] d g := by
  intro H enc w n cs hl hf
  obtain ⟨y, hy⟩ := hf 0 _ rfl
  simp only [offs, List.take_zero, List.map_nil, List.sum_nil, List.drop_zero] at hy
  rw [List.take_of_length_le (by simp at hl; omega)] at hy
  exact h H enc w n cs y hy
theorem sect_cons {P : Program} {t : TypeId} {s : Nat} {L : List (TypeId × Nat)} {α β : Type} {d : Kd α} {d' : Kd β} {g : α → Prop} {g' : β → Prop} (h : Opens P t d g) (h' : Sect P L d' g') :
    Sect P ((t, s) :: L) (Kd.pair d d') (fun x => g x.1 ∧ g' x.2) := by
  intro H enc w n cs hl hf
  obtain ⟨y, hy⟩ := hf 0 _ rfl
  simp only [offs, List.take_zero, List.map_nil, List.sum_nil, List.drop_zero] at hy
  obtain ⟨a, ha, hga⟩ := h H enc w n _ y hy
  obtain ⟨b, hb, hgb⟩ := h' H enc w n (cs.drop s) (by simp only [List.map_cons, List.sum_cons] at hl; rw [List.length_drop, hl]; omega) (by
    intro i p hp
    obtain ⟨z, hz⟩ := hf (i + 1) p (by simpa using hp)
    refine ⟨z, ?_⟩
    simp only [offs, List.take_succ_cons, List.map_cons, List.sum_cons] at hz
    rw [List.drop_drop]
    exact hz)
  exact ⟨(a, b), ⟨cs.take s, cs.drop s, (List.take_append_drop s cs).symm, ha, hb⟩, hga, hgb⟩
theorem opens_struct {P : Program} {t : TypeId} {fs : Array Field} {α β : Type} {d : Kd α} {g : α → Prop} (f : β → α) (k : α → β) (hk : ∀ x, f (k x) = x) (L : List (TypeId × Nat))
    (ht : P.underlying t = some (.struct fs)) (hL : L = fs.toList.map (fun f => (f.type, P.cellsOf f.type))) (ho : fs.toList.map (·.offset) = (List.range L.length).map (offs L)) (hc : P.cellsOf t = (L.map (·.2)).sum)
    (h : Sect P L d g) : Opens P t (Kd.iso d f) (fun x => g (f x)) := by
  intro H enc w fuel cs x hx
  obtain ⟨xs, n, rfl, rfl, hl, hxl, hf⟩ := DataW.trod_struct ht hx
  obtain ⟨a, ha, hg⟩ := h H enc w n cs (hl.trans hc) (by
    intro i p hp
    have hi : i < fs.size := by
      have := (List.getElem?_eq_some_iff.1 hp).1
      rw [hL] at this
      simpa using this
    have hfi : fs[i]? = some fs[i] := Array.getElem?_eq_getElem hi
    have h1 := hf i fs[i] hfi
    obtain ⟨y, hy⟩ : ∃ y, xs[i]? = some y := ⟨_, List.getElem?_eq_getElem (by omega)⟩
    rw [hy] at h1
    refine ⟨y, ?_⟩
    have hp' : p = (fs[i].type, P.cellsOf fs[i].type) := by
      rw [hL] at hp
      simp only [List.getElem?_map, Array.getElem?_toList, hfi, Option.map_some, Option.some.injEq] at hp
      exact hp.symm
    have hoi : fs[i].offset = offs L i := by
      have h2 : (fs.toList.map (·.offset))[i]? = ((List.range L.length).map (offs L))[i]? := by rw [ho]
      have hLl : L.length = fs.size := by rw [hL]; simp
      simp only [List.getElem?_map, Array.getElem?_toList, hfi, Option.map_some, List.getElem?_range (show i < L.length by omega)] at h2
      exact Option.some.inj h2
    rw [hp', ← hoi]
    exact h1)
  refine ⟨k a, ?_, ?_⟩
  · show d.K w (f (k a)) cs
    rw [hk]; exact ha
  · show g (f (k a))
    rw [hk]; exact hg

/-! The row: an argument opened. -/
theorem arg_slice {P : Program} {W : World} {H : Type} {enc : TypeId × Value → H} {t e : TypeId} {α : Type} {d : Kd α} {g : List α → Prop} {v : Value} {x : DataW H} {p : List MemPlace} (h : Opens P t (Kd.slice e d) g)
    (hs : ∃ a len cap, v = .slice a len cap) (hv : DataW.Trod enc P W 0 (fun _ => true) true t v x p) : ∃ A c xs, v = .slice A xs.length c ∧ xs.length ≤ c ∧ Kd.C d W A xs.length xs ∧ g xs := by
  obtain ⟨a, len, cap, rfl⟩ := hs
  obtain ⟨fuel, hf⟩ := hv
  obtain ⟨xs, ⟨A, c, he, hl, hc⟩, hg⟩ := h H enc W fuel _ _ hf
  simp [Value.cells] at he
  obtain ⟨rfl, rfl, rfl⟩ := he
  exact ⟨_, _, xs, rfl, hl, hc, hg⟩
theorem arg_agg {P : Program} {W : World} {H : Type} {enc : TypeId × Value → H} {t : TypeId} {α : Type} {d : Kd α} {g : α → Prop} {v : Value} {x : DataW H} {p : List MemPlace} (h : Opens P t d g)
    (hs : ∃ cs, v = .agg cs) (hv : DataW.Trod enc P W 0 (fun _ => true) true t v x p) : ∃ a cs, v = .agg cs ∧ d.K W a cs.toList ∧ g a := by
  obtain ⟨cs, rfl⟩ := hs
  obtain ⟨fuel, hf⟩ := hv
  obtain ⟨a, hK, hg⟩ := h H enc W fuel _ _ hf
  exact ⟨a, cs, rfl, hK, hg⟩
end Go.Proofs.Ytdhndojmekcjhaa.Open
set_option linter.unusedVariables false
namespace Go.Proofs.Ytdhndojmekcjhaa.X
open Go.RowKit Go.Proofs.YtdhndojmekcjhaaW.PrintWords Go.Proofs.Ytdhndojmekcjhaa.Open
theorem op3 : Opens Try.prog 3 (Kd.int .i64) (fun n => (Lit.int .i64 n).wf = true) := opens_int Try.underlying3
theorem op48 : Opens Try.prog 48 (Kd.slice 3 (Kd.int .i64)) (fun xs => (xs.length ≤ 9223372036854775807 ∧ ∀ y ∈ xs, (Lit.int .i64 y).wf = true)) := opens_slice Try.underlying48 (by kernel_rfl) op3
def good68 (x : S68) : Prop := (Lit.int .i64 x.f0).wf = true ∧ (x.f1.length ≤ 9223372036854775807 ∧ ∀ y ∈ x.f1, (Lit.int .i64 y).wf = true)
theorem op68 : Opens Try.prog 68 k68 good68 :=
  opens_struct (fun x : S68 => (x.f0, x.f1)) (fun p => ⟨p.1, p.2⟩) (fun _ => rfl) [(3, 1), (48, 1)] Try.underlying68 (by kernel_rfl) (by decide) (by kernel_rfl) (sect_cons op3 (sect_one op48))
theorem op25 : Opens Try.prog 25 (Kd.slice 68 k68) (fun xs => (xs.length ≤ 9223372036854775807 ∧ ∀ y ∈ xs, good68 y)) := opens_slice Try.underlying25 (by kernel_rfl) op68
def good77 (x : S77) : Prop := (Lit.int .i64 x.f0).wf = true ∧ (Lit.int .i64 x.f1).wf = true ∧ (Lit.int .i64 x.f2).wf = true
theorem op77 : Opens Try.prog 77 k77 good77 :=
  opens_struct (fun x : S77 => (x.f0, x.f1, x.f2)) (fun p => ⟨p.1, p.2.1, p.2.2⟩) (fun _ => rfl) [(3, 1), (3, 1), (3, 1)] Try.underlying77 (by kernel_rfl) (by decide) (by kernel_rfl) (sect_cons op3 (sect_cons op3 (sect_one op3)))
theorem op33 : Opens Try.prog 33 (Kd.slice 77 k77) (fun xs => (xs.length ≤ 9223372036854775807 ∧ ∀ y ∈ xs, good77 y)) := opens_slice Try.underlying33 (by kernel_rfl) op77
end Go.Proofs.Ytdhndojmekcjhaa.X
namespace Go.Proofs.Ytdhndojmekcjhaa.X
open Go.RowKit Go.Proofs.YtdhndojmekcjhaaW.PrintWords
def PureFnExactIsValidArchive : Prop := ∀ (a0 : List (S77)) (a1 : List (S68)) (a2 : Int), (a0.length ≤ 9223372036854775807 ∧ ∀ y ∈ a0, good77 y) → (a1.length ≤ 9223372036854775807 ∧ ∀ y ∈ a1, good68 y) → (Lit.int .i64 a2).wf = true → ∃ k, laws_FnExactIsValidArchive.f k a0 a1 a2 = some true
end Go.Proofs.Ytdhndojmekcjhaa.X
set_option linter.unusedVariables false
set_option linter.unusedSimpArgs false
namespace Go.Proofs.Ytdhndojmekcjhaa.X
open Go.RowKit Go.Proofs.YtdhndojmekcjhaaW.PrintWords Go.Proofs.Ytdhndojmekcjhaa.E
abbrev Item := S59
abbrev Box := S69
theorem l1In_eq (a l h : Int) : spec_l1In.f a l h = some (decide (l ≤ a ∧ a ≤ h)) := by
  unfold spec_l1In.f
  by_cases h1 : a ≥ l
  · rw [if_pos h1]; congr 1; simp [h1]
  · rw [if_neg h1]; congr 1; symm; simp; intro h2; omega
theorem within_eq (a l h : Int) : impl_within.f a l h = some (decide (l ≤ a ∧ a ≤ h)) := by
  unfold impl_within.f
  by_cases h1 : a ≥ l
  · rw [if_pos h1]; congr 1; simp [h1]
  · rw [if_neg h1]; congr 1; symm; simp; intro h2; omega
def shareB (a b : Int) : Bool := if ((a == 2) != (b == 2)) = true then false else !((decide (a = 3) && decide (b = 4)) || (decide (a = 4) && decide (b = 3)))
theorem l26Share_eq (a b : Int) : spec_l26Share.f a b = some (shareB a b) := by
  unfold spec_l26Share.f shareB
  by_cases h : ((a == 2) != (b == 2)) = true
  · rw [if_pos h, if_pos h]
  · rw [if_neg h, if_neg h]
    by_cases h3 : a = 3 <;> by_cases h4 : b = 4 <;> by_cases h5 : a = 4 <;> by_cases h6 : b = 3 <;> simp [h3, h4, h5, h6] <;> omega
theorem mayShare_eq (a b : Int) : impl_mayShare.f a b = some (shareB a b) := by
  rw [← l26Share_eq]; rfl
theorem shareB_comm (a b : Int) : shareB a b = shareB b a := by
  unfold shareB
  have e : ((a == 2) != (b == 2)) = ((b == 2) != (a == 2)) := by cases (a == 2) <;> cases (b == 2) <;> rfl
  rw [e]
  split
  · rfl
  · rw [Bool.or_comm]; congr 2 <;> rw [Bool.and_comm]
/-- What holds of the item at a place, and of the one before it. -/
def itemAt (items : List Item) (i : Nat) : Bool :=
  decide (1 ≤ (items.getD i z59).f0 ∧ (items.getD i z59).f0 ≤ 9999) && decide (1 ≤ (items.getD i z59).f1 ∧ (items.getD i z59).f1 ≤ 4) && decide (1 ≤ (items.getD i z59).f2 ∧ (items.getD i z59).f2 ≤ 1000) &&
  decide (0 < i → (items.getD (i - 1) z59).f0 < (items.getD i z59).f0)
def itemsOk (items : List Item) : Bool := if (List.range items.length).all (itemAt items) = true then decide ((items.length : Int) ≤ 12) else false
theorem l26Items_ev (items : List Item) (hl : items.length ≤ 9223372036854775807) : Ev (fun k => spec_l26Items.f k items) (itemsOk items) := by
  refine ev_all0 (L := fun k i => spec_l26Items.l0 k items i) items.length (itemAt items) false (decide ((items.length : Int) ≤ 12)) (fun _ => Ev.step (fun k => rfl) (ev_neg (by omega) (ev_now rfl))) ?_ ?_
  · intro i hi _ hc y hy
    simp only [itemAt, Bool.and_eq_true, decide_eq_true_eq] at hc
    obtain ⟨⟨⟨h1, h2⟩, h3⟩, h4⟩ := hc
    refine Ev.step (fun k => rfl) (ev_pos (by omega) (ev_pos (by omega) ?_))
    simp only [rd_T59, Int.toNat_natCast, l1In_eq]
    refine ev_pos (by simpa using h1) (ev_pos (by simpa using h2) (ev_pos (by simpa using h3) ?_))
    refine ev_ite (fun h0 => ?_) (fun h0 => ?_)
    · have hp := wrap_pred (i := i) (by omega) (by omega)
      simp only [hp]
      refine ev_pos (by omega) (ev_pos (by omega) (ev_neg ?_ ?_))
      · have := h4 (by omega); rw [Int.toNat_natCast]; omega
      · rw [wrap_succ hi hl]; exact hy
    · rw [wrap_succ hi hl]; exact hy
  · intro i hi _ hc
    refine Ev.step (fun k => rfl) (ev_pos (by omega) (ev_pos (by omega) ?_))
    simp only [rd_T59, Int.toNat_natCast, l1In_eq]
    refine ev_ite (fun h1 => ?_) (fun _ => ev_now rfl)
    refine ev_ite (fun h2 => ?_) (fun _ => ev_now rfl)
    refine ev_ite (fun h3 => ?_) (fun _ => ev_now rfl)
    have h4 : ¬ (0 < i → (items.getD (i - 1) z59).f0 < (items.getD i z59).f0) := by
      intro h4
      have : itemAt items i = true := by
        simp only [itemAt, Bool.and_eq_true, h1, h2, h3, decide_eq_true_eq, true_and]
        exact h4
      rw [this] at hc; cases hc
    have h5 : 0 < i := by
      rcases Nat.eq_zero_or_pos i with h | h
      · exact absurd (fun h' => by omega) h4
      · exact h
    have hp := wrap_pred (i := i) (by omega) (by omega)
    refine ev_pos (by omega) ?_
    simp only [hp]
    refine ev_pos (by omega) (ev_pos (by omega) (ev_pos ?_ (ev_now rfl)))
    rw [Int.toNat_natCast]
    have : ¬ (items.getD (i - 1) z59).f0 < (items.getD i z59).f0 := fun h => h4 (fun _ => h)
    omega
theorem areItems_ev (items : List Item) (hl : items.length ≤ 9223372036854775807) : Ev (fun k => impl_areItems.f k items) (itemsOk items) := by
  refine ev_all0 (L := fun k i => impl_areItems.l0 k items items (items.length : Int) i) items.length (itemAt items) false (decide ((items.length : Int) ≤ 12)) (fun _ => Ev.step (fun k => rfl) (ev_neg (by omega) (ev_now rfl))) ?_ ?_
  · intro i hi _ hc y hy
    simp only [itemAt, Bool.and_eq_true, decide_eq_true_eq] at hc
    obtain ⟨⟨⟨h1, h2⟩, h3⟩, h4⟩ := hc
    refine Ev.step (fun k => rfl) (ev_pos (by omega) (ev_pos (by omega) (ev_pos (by omega) ?_)))
    simp only [rd_T59, Int.toNat_natCast, impl_isBoxNumber.f, impl_isMaterial.f, within_eq]
    refine ev_pos (by simpa using h1) (ev_pos (by simpa using h2) (ev_pos (by simpa using h3) ?_))
    refine ev_ite (fun h0 => ?_) (fun h0 => ?_)
    · have hp := wrap_pred (i := i) (by omega) (by omega)
      simp only [hp]
      refine ev_pos (by omega) (ev_pos (by omega) (ev_neg ?_ ?_))
      · have := h4 (by omega); rw [Int.toNat_natCast]; omega
      · rw [wrap_succ hi hl]; exact hy
    · rw [wrap_succ hi hl]; exact hy
  · intro i hi _ hc
    refine Ev.step (fun k => rfl) (ev_pos (by omega) (ev_pos (by omega) (ev_pos (by omega) ?_)))
    simp only [rd_T59, Int.toNat_natCast, impl_isBoxNumber.f, impl_isMaterial.f, within_eq]
    refine ev_ite (fun h1 => ?_) (fun _ => ev_now rfl)
    refine ev_ite (fun h2 => ?_) (fun _ => ev_now rfl)
    refine ev_ite (fun h3 => ?_) (fun _ => ev_now rfl)
    have h4 : ¬ (0 < i → (items.getD (i - 1) z59).f0 < (items.getD i z59).f0) := by
      intro h4
      have : itemAt items i = true := by
        simp only [itemAt, Bool.and_eq_true, decide_eq_true_eq]
        simp only [Option.bind_some, decide_eq_true_eq] at h1 h2 h3
        exact ⟨⟨⟨h1, h2⟩, h3⟩, h4⟩
      rw [this] at hc; cases hc
    have h5 : 0 < i := by
      rcases Nat.eq_zero_or_pos i with h | h
      · exact absurd (fun h' => by omega) h4
      · exact h
    have hp := wrap_pred (i := i) (by omega) (by omega)
    refine ev_pos (by omega) ?_
    simp only [hp]
    refine ev_pos (by omega) (ev_pos (by omega) (ev_pos ?_ (ev_now rfl)))
    rw [Int.toNat_natCast]
    have : ¬ (items.getD (i - 1) z59).f0 < (items.getD i z59).f0 := fun h => h4 (fun _ => h)
    omega
/-- The place of an item by its number; -1 if there is none. -/
abbrev fnd (items : List Item) (n : Int) : Int := idxG (fun x : Item => x.f0 == n) 0 items
theorem l26Find_ev (items : List Item) (n : Int) (hl : items.length ≤ 9223372036854775807) : Ev (fun k => spec_l26Find.f k items n) (fnd items n) := by
  have h := ev_walk (L := fun k i => spec_l26Find.l0 k items n i) (G := fun i r => idxG (fun x : Item => x.f0 == n) i r) items (Ev.step (fun k => rfl) (ev_neg (by omega) (ev_now rfl))) ?step
  case step =>
    intro i x r hi hd hx hk
    refine Ev.step (fun k => rfl) (ev_pos (by omega) (ev_pos (by omega) ?_))
    simp only [rd_T59, Int.toNat_natCast, hx]
    by_cases c : x.f0 = n
    · exact ev_pos c (ev_now (by simp [idxG, c]))
    · refine ev_neg c ?_
      rw [wrap_succ hi hl]
      exact ev_cast hk (by simp [idxG, c])
  exact h
end Go.Proofs.Ytdhndojmekcjhaa.X
namespace Go.Proofs.Ytdhndojmekcjhaa.X
open Go.RowKit Go.Proofs.YtdhndojmekcjhaaW.PrintWords Go.Proofs.YtdhndojmekcjhaaW.PrintLast Go.Proofs.YtdhndojmekcjhaaW.PrintMore
attribute [local go_sem] max2_int min2_int max_two min_two max_three min_three max_four min_four   -- for this text's walks alone
set_option linter.unusedVariables false
set_option linter.unusedSimpArgs false

/-! ### slices_Index_int_int: function 93 -/
def slices_Index_int_int.l0 : Nat → List Int → Int → Int → Int → Option (Int)
 | 0, _, _, _, _ => none
 | k + 1, x0, x1, x7, x8 => if x8 < x7 then (if 0 ≤ x8 then (if x8 < (x0.length : Int) then (if x1 = (rd x0 x8) then (some x8) else (slices_Index_int_int.l0 k x0 x1 x7 (wrap64 (x8 + 1)))) else (none)) else (none)) else (some (-1))
def slices_Index_int_int.f (k : Nat) (l0 : List Int) (a1 : Int) : Option (Int) := slices_Index_int_int.l0 k l0 a1 (l0.length : Int) 0
theorem slices_Index_int_int.mono_l : ∀ k, (∀ y0 y1 y2 y3, LeO (slices_Index_int_int.l0 k y0 y1 y2 y3) (slices_Index_int_int.l0 (k + 1) y0 y1 y2 y3))
 | 0 => fun _ _ _ _ r h => by simp [slices_Index_int_int.l0] at h
 | k + 1 => by
  have ih0 := slices_Index_int_int.mono_l k
  ·intro y0 y1 y2 y3
   unfold slices_Index_int_int.l0
   repeat' first
   | (with_reducible exact ih0 _ _ _ _)
   | (with_reducible exact LeO.refl _)
   | (with_reducible exact LeO.none _)
   | (with_reducible refine LeO.ite ?_ ?_)
   | (with_reducible refine LeO.bind ?_ (fun _ => ?_))
   | exact ih0 _ _ _ _
   | exact LeO.none _
   | refine LeO.ite ?_ ?_
   | refine LeO.bind ?_ (fun _ => ?_)
theorem slices_Index_int_int.mono : ∀ a0 a1 k, LeO (slices_Index_int_int.f k a0 a1) (slices_Index_int_int.f (k + 1) a0 a1) := by
 intro a0 a1 k
 have ih0 := slices_Index_int_int.mono_l k
 unfold slices_Index_int_int.f
 repeat' first
   | (with_reducible exact ih0 _ _ _ _)
   | (with_reducible exact LeO.refl _)
   | (with_reducible exact LeO.none _)
   | (with_reducible refine LeO.ite ?_ ?_)
   | (with_reducible refine LeO.bind ?_ (fun _ => ?_))
   | exact ih0 _ _ _ _
   | exact LeO.none _
   | refine LeO.ite ?_ ?_
   | refine LeO.bind ?_ (fun _ => ?_)
set_option maxHeartbeats 8000000 in
set_option maxRecDepth 100000 in
theorem slices_Index_int_int.calls (k : Nat) (A0 : Option Addr) (c0 : Nat) (l0 : List Int) (a1 : Int) (r : Int) (w : World) (hr0 : Kd.C (Kd.int .i64) w A0 l0.length l0) (hc0 : l0.length ≤ c0) (h : slices_Index_int_int.f k l0 a1 = some r) :
  Calls Try.prog 93 #[.slice A0 l0.length c0, .int .i64 a1] w fun e w' => e = .returned (.int .i64 r) ∧ Drawn0 w w' := by
 have HR0 := Aside0.mk hr0
 have HC0 := Aside0.mk hc0
 clear hr0 hc0
 have H : (slices_Index_int_int.l0 k l0 a1 (l0.length : Int) 0) = some r := h
 clear h
 have H' := Aside0.mk H
 clear H
 go_enter Try.func93, Try.ntmps93
 go_wp2
 go_loopg [8] k (fun kq v8 w' => ∃ (x8_1 : Int), v8 = .int .i64 x8_1 ∧ Aside0 (slices_Index_int_int.l0 kq l0 a1 (l0.length : Int) x8_1 = some r) ∧ Aside0 (kq ≤ k) ∧ Drawn0 w w')
 case atStart => exact ⟨(0), (by first | rfl | (simp; done) | (simp [*]; done)), H', ⟨Nat.le_refl _⟩, by repeat (first | exact Drawn0.refl _ | apply Drawn0.step)⟩
 case round =>
  clear H'
  try clear p2
  obtain ⟨x8_1, rfl, HA, HK1, ⟨m1, rfl⟩⟩ := hrel
  cases gk with
  | zero => exact absurd HA.out (by simp [slices_Index_int_int.l0])
  | succ k1 =>
   have H := HA.out
   clear HA
   simp only [slices_Index_int_int.l0] at H
   by_cases c3 : x8_1 < (l0.length : Int)
   ·rw [if_pos c3] at H
    have c3b0 : decide (x8_1 < (l0.length : Int)) = true := decide_eq_true c3
    clear c3
    by_cases c4 : 0 ≤ x8_1
    ·rw [if_pos c4] at H
     have c4b0 : decide (0 ≤ x8_1) = true := decide_eq_true c4
     clear c4
     by_cases c5 : x8_1 < (l0.length : Int)
     ·rw [if_pos c5] at H
      have c5b0 : decide (x8_1 < (l0.length : Int)) = true := decide_eq_true c5
      clear c5
      by_cases c6 : a1 = (rd l0 x8_1)
      ·rw [if_pos c6] at H
       have c6b0 : (a1 == (rd l0 x8_1)) = true := beq_iff_eq.mpr c6
       have c6b1 : (a1 != (rd l0 x8_1)) = false := bne_eq_false_iff_eq.mpr c6
       clear c6
       obtain rfl := Option.some.inj H
       have p101 : 0 ≤ (x8_1 : Int) := of_decide_eq_true (by first | (with_reducible assumption) | assumption)
       have q101 : x8_1 < (l0.length : Int) := of_decide_eq_true (by first | (with_reducible assumption) | assumption)
       obtain ⟨ad101, e101, hx101_0⟩ := Kd.at_int HR0.out x8_1 p101 q101
       cases e101
       replace p101 := eq_true p101
       replace q101 := eq_true q101
       go_wp2
       go_ret
       exact ⟨by first | rfl | (simp; done) | (simp [*]; done), by repeat (first | exact Drawn0.refl _ | apply Drawn0.step)⟩
      ·rw [if_neg c6] at H
       have c6b0 : (a1 == (rd l0 x8_1)) = false := beq_eq_false_iff_ne.mpr c6
       have c6b1 : (a1 != (rd l0 x8_1)) = true := bne_iff_ne.mpr c6
       have H' := Aside0.mk H
       clear H
       have p101 : 0 ≤ (x8_1 : Int) := of_decide_eq_true (by first | (with_reducible assumption) | assumption)
       have q101 : x8_1 < (l0.length : Int) := of_decide_eq_true (by first | (with_reducible assumption) | assumption)
       obtain ⟨ad101, e101, hx101_0⟩ := Kd.at_int HR0.out x8_1 p101 q101
       cases e101
       replace p101 := eq_true p101
       replace q101 := eq_true q101
       go_wp2
       go_roundg k1
       case measure => have := HK1.out; omega
       case rel => exact ⟨(wrap64 (x8_1 + 1)), (by first | rfl | (simp; done) | (simp [*]; done)), H', ⟨by have := HK1.out; omega⟩, by repeat (first | exact Drawn0.refl _ | apply Drawn0.step)⟩
     ·rw [if_neg c5] at H
      exact absurd H (by simp)
    ·rw [if_neg c4] at H
     exact absurd H (by simp)
   ·rw [if_neg c3] at H
    have c3b0 : decide (x8_1 < (l0.length : Int)) = false := decide_eq_false c3
    clear c3
    obtain rfl := Option.some.inj H
    go_wp2
    go_ret
    exact ⟨by first | rfl | (simp; done) | (simp [*]; done), by repeat (first | exact Drawn0.refl _ | apply Drawn0.step)⟩

end Go.Proofs.Ytdhndojmekcjhaa.X
namespace Go.Proofs.Ytdhndojmekcjhaa.X
open Go.RowKit Go.Proofs.YtdhndojmekcjhaaW.PrintWords Go.Proofs.YtdhndojmekcjhaaW.PrintLast Go.Proofs.YtdhndojmekcjhaaW.PrintMore
attribute [local go_sem] max2_int min2_int max_two min_two max_three min_three max_four min_four   -- for this text's walks alone
set_option linter.unusedVariables false
set_option linter.unusedSimpArgs false

/-! ### slices_Contains_int_int: function 49 -/
def slices_Contains_int_int.f (k : Nat) (l0 : List Int) (a1 : Int) : Option (Bool) := (slices_Index_int_int.f k l0 a1).bind fun t101 => (some (decide (t101 ≥ 0)))
theorem slices_Contains_int_int.mono : ∀ a0 a1 k, LeO (slices_Contains_int_int.f k a0 a1) (slices_Contains_int_int.f (k + 1) a0 a1) := by
 intro a0 a1 k
 unfold slices_Contains_int_int.f
 repeat' first
   | (with_reducible exact slices_Index_int_int.mono _ _ _)
   | (with_reducible exact LeO.refl _)
   | (with_reducible exact LeO.none _)
   | (with_reducible refine LeO.ite ?_ ?_)
   | (with_reducible refine LeO.bind ?_ (fun _ => ?_))
   | exact slices_Index_int_int.mono _ _ _
   | exact LeO.none _
   | refine LeO.ite ?_ ?_
   | refine LeO.bind ?_ (fun _ => ?_)
set_option maxHeartbeats 8000000 in
set_option maxRecDepth 100000 in
theorem slices_Contains_int_int.calls (k : Nat) (A0 : Option Addr) (c0 : Nat) (l0 : List Int) (a1 : Int) (r : Bool) (w : World) (hr0 : Kd.C (Kd.int .i64) w A0 l0.length l0) (hc0 : l0.length ≤ c0) (h : slices_Contains_int_int.f k l0 a1 = some r) :
  Calls Try.prog 49 #[.slice A0 l0.length c0, .int .i64 a1] w fun e w' => e = .returned (.bool r) ∧ Drawn0 w w' := by
 have HR0 := Aside0.mk hr0
 have HC0 := Aside0.mk hc0
 clear hr0 hc0
 have H : ((slices_Index_int_int.f k l0 a1).bind fun t101 => (some (decide (t101 ≥ 0)))) = some r := h
 clear h
 replace H := Option.bind_eq_some_iff.mp H
 obtain ⟨t101, A30, H⟩ := H
 replace H : (some (decide (t101 ≥ 0))) = some r := H
 have A3 := Aside0.mk A30
 clear A30
 obtain rfl := Option.some.inj H
 go_enter Try.func49, Try.ntmps49
 go_wp2_with (first | ((with_reducible refine gate_callee (f := 93) rfl ?_); refine goesL_ (some 7) rfl rfl Try.func93 (by kernel_rfl) rfl #[.slice A0 l0.length c0, .int .i64 a1] rfl (by (try simp only [aM1, aM2, aM3]); first | done | rfl | (simp only [List.length_drop, List.length_take]; rfl)) ?_; (with_reducible refine (slices_Index_int_int.calls k _ _ l0 a1 t101 _ ?side1 ?side2 A3.out).mono ?_); (case side1 => repeat (first | exact HR0.out | (with_reducible refine Kd.C_alloc ?_ _) | (with_reducible refine Kd.C_drewN ?_ _) | (with_reducible refine Kd.C_drew ?_))); (case side2 => exact HC0.out); rintro e w' ⟨rfl, ⟨nd, rfl⟩⟩; refine ⟨_, rfl, ?_⟩))
 go_ret
 exact ⟨by first | rfl | (simp; done) | (simp [*]; done), by repeat (first | exact Drawn0.refl _ | apply Drawn0.step)⟩

end Go.Proofs.Ytdhndojmekcjhaa.X
namespace Go.Proofs.Ytdhndojmekcjhaa.X
open Go.RowKit Go.Proofs.YtdhndojmekcjhaaW.PrintWords Go.Proofs.YtdhndojmekcjhaaW.PrintLast Go.Proofs.YtdhndojmekcjhaaW.PrintMore
attribute [local go_sem] max2_int min2_int max_two min_two max_three min_three max_four min_four   -- for this text's walks alone
set_option linter.unusedVariables false
set_option linter.unusedSimpArgs false

/-! ### impl_BoxOf: function 17 -/
def impl_BoxOf.l0 : Nat → Int → List (S69) → Int → Int → Option (Int × Bool)
 | 0, _, _, _, _ => none
 | k + 1, x1, x8, x9, x10 => if x10 < x9 then (if 0 ≤ x10 then (if x10 < (x8.length : Int) then ((slices_Contains_int_int.f k ((rd_T69 x8 x10).f1) x1).bind fun t103 => (if t103 = true then (some ((rd_T69 x8 x10).f0, true)) else (impl_BoxOf.l0 k x1 x8 x9 (wrap64 (x10 + 1))))) else (none)) else (none)) else (some (0, false))
def impl_BoxOf.f (k : Nat) (l0 : List (S69)) (a1 : Int) : Option (Int × Bool) := impl_BoxOf.l0 k a1 l0 (l0.length : Int) 0
theorem impl_BoxOf.mono_l : ∀ k, (∀ y0 y1 y2 y3, LeO (impl_BoxOf.l0 k y0 y1 y2 y3) (impl_BoxOf.l0 (k + 1) y0 y1 y2 y3))
 | 0 => fun _ _ _ _ r h => by simp [impl_BoxOf.l0] at h
 | k + 1 => by
  have ih0 := impl_BoxOf.mono_l k
  ·intro y0 y1 y2 y3
   unfold impl_BoxOf.l0
   repeat' first
   | (with_reducible exact ih0 _ _ _ _)
   | (with_reducible exact slices_Contains_int_int.mono _ _ _)
   | (with_reducible exact LeO.refl _)
   | (with_reducible exact LeO.none _)
   | (with_reducible refine LeO.ite ?_ ?_)
   | (with_reducible refine LeO.bind ?_ (fun _ => ?_))
   | exact ih0 _ _ _ _
   | exact slices_Contains_int_int.mono _ _ _
   | exact LeO.none _
   | refine LeO.ite ?_ ?_
   | refine LeO.bind ?_ (fun _ => ?_)
theorem impl_BoxOf.mono : ∀ a0 a1 k, LeO (impl_BoxOf.f k a0 a1) (impl_BoxOf.f (k + 1) a0 a1) := by
 intro a0 a1 k
 have ih0 := impl_BoxOf.mono_l k
 unfold impl_BoxOf.f
 repeat' first
   | (with_reducible exact ih0 _ _ _ _)
   | (with_reducible exact slices_Contains_int_int.mono _ _ _)
   | (with_reducible exact LeO.refl _)
   | (with_reducible exact LeO.none _)
   | (with_reducible refine LeO.ite ?_ ?_)
   | (with_reducible refine LeO.bind ?_ (fun _ => ?_))
   | exact ih0 _ _ _ _
   | exact slices_Contains_int_int.mono _ _ _
   | exact LeO.none _
   | refine LeO.ite ?_ ?_
   | refine LeO.bind ?_ (fun _ => ?_)
set_option maxHeartbeats 8000000 in
set_option maxRecDepth 100000 in
theorem impl_BoxOf.calls (k : Nat) (A0 : Option Addr) (c0 : Nat) (l0 : List (S69)) (a1 : Int) (r1 : Int) (r2 : Bool) (w : World) (hr0 : Kd.C k69 w A0 l0.length l0) (hc0 : l0.length ≤ c0) (h : impl_BoxOf.f k l0 a1 = some (r1, r2)) :
  Calls Try.prog 17 #[.slice A0 l0.length c0, .int .i64 a1] w fun e w' => e = .returned (.tuple #[.int .i64 r1, .bool r2]) ∧ Below w.heap.size w w' := by
 have hu69 := Try.underlying69
 have HR0 := Aside0.mk hr0
 have HC0 := Aside0.mk hc0
 clear hr0 hc0
 have HB := Aside0.mk (Below.refl w.heap.size w)
 have H : (impl_BoxOf.l0 k a1 l0 (l0.length : Int) 0) = some (r1, r2) := h
 clear h
 have H' := Aside0.mk H
 clear H
 go_enter Try.func17, Try.ntmps17
 go_wp2
 go_loopg [10] k (fun kq v10 w' => ∃ (x10_1 : Int), v10 = .int .i64 x10_1 ∧ Aside0 (impl_BoxOf.l0 kq a1 l0 (l0.length : Int) x10_1 = some (r1, r2)) ∧ Aside0 (kq ≤ k) ∧ Aside0 (Below w.heap.size w w'))
 case atStart => exact ⟨(0), (by first | rfl | (simp; done) | (simp [*]; done)), H', ⟨Nat.le_refl _⟩, ⟨by repeat (first | (with_reducible first | exact HB.out | apply below_alloc | apply pw_below_drewN | apply below_drew1) | exact HB.out)⟩⟩
 case round =>
  clear H'
  try clear c1
  try clear p2
  obtain ⟨x10_1, rfl, HA, HK1, HB⟩ := hrel
  cases gk with
  | zero => exact absurd HA.out (by simp [impl_BoxOf.l0])
  | succ k1 =>
   have H := HA.out
   clear HA
   simp only [impl_BoxOf.l0] at H
   by_cases c3 : x10_1 < (l0.length : Int)
   ·rw [if_pos c3] at H
    have c3b0 : decide (x10_1 < (l0.length : Int)) = true := decide_eq_true c3
    clear c3
    by_cases c4 : 0 ≤ x10_1
    ·rw [if_pos c4] at H
     have c4b0 : decide (0 ≤ x10_1) = true := decide_eq_true c4
     clear c4
     by_cases c5 : x10_1 < (l0.length : Int)
     ·rw [if_pos c5] at H
      have c5b0 : decide (x10_1 < (l0.length : Int)) = true := decide_eq_true c5
      clear c5
      replace H := Option.bind_eq_some_iff.mp H
      obtain ⟨t103, A60, H⟩ := H
      replace H : (if t103 = true then (some ((rd_T69 l0 x10_1).f0, true)) else (impl_BoxOf.l0 k1 a1 l0 (l0.length : Int) (wrap64 (x10_1 + 1)))) = some (r1, r2) := H
      have A6 := Aside0.mk A60
      clear A60
      by_cases c7 : t103 = true
      ·subst c7
       have H1 : (some ((rd_T69 l0 x10_1).f0, true)) = some (r1, r2) := by rw [if_pos rfl] at H; exact H
       clear H
       have H := H1
       clear H1
       simp only [Option.some.injEq, Prod.mk.injEq] at H
       obtain ⟨rfl, rfl⟩ := H
       have p101 : 0 ≤ (x10_1 : Int) := of_decide_eq_true (by first | (with_reducible assumption) | assumption)
       have q101 : x10_1 < (l0.length : Int) := of_decide_eq_true (by first | (with_reducible assumption) | assumption)
       obtain ⟨ad101, A101_1, c101_1, e101, hx101_0, hx101_1, hl101_1, hi101_1⟩ := at_T69 HR0.out x10_1 p101 q101
       cases e101
       replace hx101_0 := (HB.out.cell (bltc w _ hx101_0)).trans hx101_0
       replace hx101_1 := (HB.out.cell (bltc w _ hx101_1)).trans hx101_1
       have HR101_1 := Aside0.mk hi101_1
       have HC101_1 := Aside0.mk hl101_1
       clear hi101_1 hl101_1
       replace p101 := eq_true p101
       replace q101 := eq_true q101
       go_wp2_with (first | ((with_reducible refine gate_dst (N := 7) rfl ?_); refine box_event ?hg (N := 7) ?hd (cs := #[.int .i64 0, .slice none 0 0]) (t := 69) ?hr ?_; (case hd => rfl); (case hg => rfl); (case hr => first | (go_simp; done) | (go_simp; rfl)); intro gb102 hg w8 hbox hb; have n0_ := Aside0.mk (below_step (by repeat (first | (with_reducible first | exact HB.out | apply below_alloc | apply pw_below_drewN | apply below_drew1) | exact HB.out)) hb); have n1_ := Aside0.mk (hbox); have n2_ := Aside0.mk ((by rw [hg]; exact (below_size (by repeat (first | (with_reducible first | exact HB.out | apply below_alloc | apply pw_below_drewN | apply below_drew1) | exact HB.out))) : w.heap.size ≤ gb102)); have n3_ := Aside0.mk ((by rw [hg]; exact (below_size (by repeat (first | (with_reducible first | exact HB.out | apply below_alloc | apply pw_below_drewN | apply below_drew1) | exact HB.out))) : w.heap.size ≤ gb102)); clear HB; have HB := n0_; have BK102 := n1_; have GW102 := n2_; have GE102 := n3_; clear n0_ n1_ n2_ n3_; clear hb hbox hg; have hcz9_0 : w8.cell? ⟨gb102, 0, none⟩ = some (.int .i64 0) := (blk_cell BK102.out 0).trans rfl; have hcz9_1 : w8.cell? ⟨gb102, 1, none⟩ = some (.slice none 0 0) := (blk_cell BK102.out 1).trans rfl; have hfz9_0 := blk_frozen BK102.out 0; have hfz9_1 := blk_frozen BK102.out 1) | ((with_reducible refine gate_callee (f := 49) rfl ?_); refine goesL_ (some 17) rfl rfl Try.func49 (by kernel_rfl) rfl #[.slice A101_1 ((rd_T69 l0 x10_1).f1).length c101_1, .int .i64 a1] rfl (by (try simp only [aM1, aM2, aM3]); first | done | rfl | (simp only [List.length_drop, List.length_take]; rfl)) ?_; (with_reducible refine (slices_Contains_int_int.calls k1 _ _ ((rd_T69 l0 x10_1).f1) a1 true _ ?side1 ?side2 A6.out).mono ?_); (case side1 => exact Kd.C_below HR101_1.out (by repeat (first | (with_reducible first | exact HB.out | apply below_alloc | apply pw_below_drewN | apply below_drew1 | refine below_set ?_ GE102.out) | exact HB.out))); (case side2 => exact HC101_1.out); rintro e w' ⟨rfl, ⟨nd, rfl⟩⟩; refine ⟨_, rfl, ?_⟩))
       go_ret2
       exact ⟨by first | rfl | (simp [errW_none, errW_some] <;> rfl) | (simp [*, errW_none, errW_some] <;> rfl), by repeat (first | (with_reducible first | exact HB.out | apply below_alloc | apply pw_below_drewN | apply below_drew1 | refine below_set ?_ GE102.out) | exact HB.out)⟩
      ·replace c7 := Bool.eq_false_iff.mpr c7
       subst c7
       have H1 : (impl_BoxOf.l0 k1 a1 l0 (l0.length : Int) (wrap64 (x10_1 + 1))) = some (r1, r2) := by rw [if_neg (show ¬ (false = true) by decide)] at H; exact H
       clear H
       have H := H1
       clear H1
       have H' := Aside0.mk H
       clear H
       have p101 : 0 ≤ (x10_1 : Int) := of_decide_eq_true (by first | (with_reducible assumption) | assumption)
       have q101 : x10_1 < (l0.length : Int) := of_decide_eq_true (by first | (with_reducible assumption) | assumption)
       obtain ⟨ad101, A101_1, c101_1, e101, hx101_0, hx101_1, hl101_1, hi101_1⟩ := at_T69 HR0.out x10_1 p101 q101
       cases e101
       replace hx101_0 := (HB.out.cell (bltc w _ hx101_0)).trans hx101_0
       replace hx101_1 := (HB.out.cell (bltc w _ hx101_1)).trans hx101_1
       have HR101_1 := Aside0.mk hi101_1
       have HC101_1 := Aside0.mk hl101_1
       clear hi101_1 hl101_1
       replace p101 := eq_true p101
       replace q101 := eq_true q101
       go_wp2_with (first | ((with_reducible refine gate_dst (N := 7) rfl ?_); refine box_event ?hg (N := 7) ?hd (cs := #[.int .i64 0, .slice none 0 0]) (t := 69) ?hr ?_; (case hd => rfl); (case hg => rfl); (case hr => first | (go_simp; done) | (go_simp; rfl)); intro gb102 hg w10 hbox hb; have n0_ := Aside0.mk (below_step (by repeat (first | (with_reducible first | exact HB.out | apply below_alloc | apply pw_below_drewN | apply below_drew1) | exact HB.out)) hb); have n1_ := Aside0.mk (hbox); have n2_ := Aside0.mk ((by rw [hg]; exact (below_size (by repeat (first | (with_reducible first | exact HB.out | apply below_alloc | apply pw_below_drewN | apply below_drew1) | exact HB.out))) : w.heap.size ≤ gb102)); have n3_ := Aside0.mk ((by rw [hg]; exact (below_size (by repeat (first | (with_reducible first | exact HB.out | apply below_alloc | apply pw_below_drewN | apply below_drew1) | exact HB.out))) : w.heap.size ≤ gb102)); clear HB; have HB := n0_; have BK102 := n1_; have GW102 := n2_; have GE102 := n3_; clear n0_ n1_ n2_ n3_; clear hb hbox hg; have hcz11_0 : w10.cell? ⟨gb102, 0, none⟩ = some (.int .i64 0) := (blk_cell BK102.out 0).trans rfl; have hcz11_1 : w10.cell? ⟨gb102, 1, none⟩ = some (.slice none 0 0) := (blk_cell BK102.out 1).trans rfl; have hfz11_0 := blk_frozen BK102.out 0; have hfz11_1 := blk_frozen BK102.out 1) | ((with_reducible refine gate_callee (f := 49) rfl ?_); refine goesL_ (some 17) rfl rfl Try.func49 (by kernel_rfl) rfl #[.slice A101_1 ((rd_T69 l0 x10_1).f1).length c101_1, .int .i64 a1] rfl (by (try simp only [aM1, aM2, aM3]); first | done | rfl | (simp only [List.length_drop, List.length_take]; rfl)) ?_; (with_reducible refine (slices_Contains_int_int.calls k1 _ _ ((rd_T69 l0 x10_1).f1) a1 false _ ?side1 ?side2 A6.out).mono ?_); (case side1 => exact Kd.C_below HR101_1.out (by repeat (first | (with_reducible first | exact HB.out | apply below_alloc | apply pw_below_drewN | apply below_drew1 | refine below_set ?_ GE102.out) | exact HB.out))); (case side2 => exact HC101_1.out); rintro e w' ⟨rfl, ⟨nd, rfl⟩⟩; refine ⟨_, rfl, ?_⟩))
       go_roundg k1
       case measure => have := HK1.out; omega
       case rel => exact ⟨(wrap64 (x10_1 + 1)), (by first | rfl | (simp; done) | (simp [*]; done)), H', ⟨by have := HK1.out; omega⟩, ⟨by repeat (first | (with_reducible first | exact HB.out | apply below_alloc | apply pw_below_drewN | apply below_drew1 | refine below_set ?_ GE102.out) | exact HB.out)⟩⟩
     ·rw [if_neg c5] at H
      exact absurd H (by simp)
    ·rw [if_neg c4] at H
     exact absurd H (by simp)
   ·rw [if_neg c3] at H
    have c3b0 : decide (x10_1 < (l0.length : Int)) = false := decide_eq_false c3
    clear c3
    simp only [Option.some.injEq, Prod.mk.injEq] at H
    obtain ⟨rfl, rfl⟩ := H
    go_wp2
    go_ret2
    exact ⟨by first | rfl | (simp [errW_none, errW_some] <;> rfl) | (simp [*, errW_none, errW_some] <;> rfl), by repeat (first | (with_reducible first | exact HB.out | apply below_alloc | apply pw_below_drewN | apply below_drew1) | exact HB.out)⟩

end Go.Proofs.Ytdhndojmekcjhaa.X
namespace Go.Proofs.Ytdhndojmekcjhaa.X
open Go.RowKit Go.Proofs.YtdhndojmekcjhaaW.PrintWords Go.Proofs.YtdhndojmekcjhaaW.PrintLast Go.Proofs.YtdhndojmekcjhaaW.PrintMore
attribute [local go_sem] max2_int min2_int max_two min_two max_three min_three max_four min_four   -- for this text's walks alone
set_option linter.unusedVariables false
set_option linter.unusedSimpArgs false

/-! ### spec_BoxOf: function 15 -/
def spec_BoxOf.f (k : Nat) (l0 : List (S69)) (a1 : Int) : Option (Int × Bool) := (spec_l26Box.f k l0 a1).bind fun t101 => (if t101 < 0 then (some (0, false)) else (if 0 ≤ t101 then (if t101 < (l0.length : Int) then (some ((rd_T69 l0 t101).f0, true)) else (none)) else (none)))
theorem spec_BoxOf.mono : ∀ a0 a1 k, LeO (spec_BoxOf.f k a0 a1) (spec_BoxOf.f (k + 1) a0 a1) := by
 intro a0 a1 k
 unfold spec_BoxOf.f
 repeat' first
   | (with_reducible exact spec_l26Box.mono _ _ _)
   | (with_reducible exact LeO.refl _)
   | (with_reducible exact LeO.none _)
   | (with_reducible refine LeO.ite ?_ ?_)
   | (with_reducible refine LeO.bind ?_ (fun _ => ?_))
   | exact spec_l26Box.mono _ _ _
   | exact LeO.none _
   | refine LeO.ite ?_ ?_
   | refine LeO.bind ?_ (fun _ => ?_)
set_option maxHeartbeats 8000000 in
set_option maxRecDepth 100000 in
theorem spec_BoxOf.calls (k : Nat) (A0 : Option Addr) (c0 : Nat) (l0 : List (S69)) (a1 : Int) (r1 : Int) (r2 : Bool) (w : World) (hr0 : Kd.C k69 w A0 l0.length l0) (hc0 : l0.length ≤ c0) (h : spec_BoxOf.f k l0 a1 = some (r1, r2)) :
  Calls Try.prog 15 #[.slice A0 l0.length c0, .int .i64 a1] w fun e w' => e = .returned (.tuple #[.int .i64 r1, .bool r2]) ∧ Drawn0 w w' := by
 have HR0 := Aside0.mk hr0
 have HC0 := Aside0.mk hc0
 clear hr0 hc0
 have H : ((spec_l26Box.f k l0 a1).bind fun t101 => (if t101 < 0 then (some (0, false)) else (if 0 ≤ t101 then (if t101 < (l0.length : Int) then (some ((rd_T69 l0 t101).f0, true)) else (none)) else (none)))) = some (r1, r2) := h
 clear h
 replace H := Option.bind_eq_some_iff.mp H
 obtain ⟨t101, A30, H⟩ := H
 replace H : (if t101 < 0 then (some (0, false)) else (if 0 ≤ t101 then (if t101 < (l0.length : Int) then (some ((rd_T69 l0 t101).f0, true)) else (none)) else (none))) = some (r1, r2) := H
 have A3 := Aside0.mk A30
 clear A30
 by_cases c4 : t101 < 0
 ·rw [if_pos c4] at H
  have c4b0 : decide (t101 < 0) = true := decide_eq_true c4
  clear c4
  simp only [Option.some.injEq, Prod.mk.injEq] at H
  obtain ⟨rfl, rfl⟩ := H
  go_enter Try.func15, Try.ntmps15
  go_wp2_with (first | ((with_reducible refine gate_callee (f := 47) rfl ?_); refine goesL_ (some 9) rfl rfl Try.func47 (by kernel_rfl) rfl #[.slice A0 l0.length c0, .int .i64 a1] rfl (by (try simp only [aM1, aM2, aM3]); first | done | rfl | (simp only [List.length_drop, List.length_take]; rfl)) ?_; (with_reducible refine (spec_l26Box.calls k _ _ l0 a1 t101 _ ?side1 ?side2 A3.out).mono ?_); (case side1 => repeat (first | exact HR0.out | (with_reducible refine Kd.C_alloc ?_ _) | (with_reducible refine Kd.C_drewN ?_ _) | (with_reducible refine Kd.C_drew ?_))); (case side2 => exact HC0.out); rintro e w' ⟨rfl, ⟨nd, rfl⟩⟩; refine ⟨_, rfl, ?_⟩))
  go_ret2
  exact ⟨by first | rfl | (simp; done) | (simp [*]; done), by repeat (first | exact Drawn0.refl _ | apply Drawn0.step)⟩
 ·rw [if_neg c4] at H
  have c4b0 : decide (t101 < 0) = false := decide_eq_false c4
  clear c4
  by_cases c5 : 0 ≤ t101
  ·rw [if_pos c5] at H
   have c5b0 : decide (0 ≤ t101) = true := decide_eq_true c5
   clear c5
   by_cases c6 : t101 < (l0.length : Int)
   ·rw [if_pos c6] at H
    have c6b0 : decide (t101 < (l0.length : Int)) = true := decide_eq_true c6
    clear c6
    simp only [Option.some.injEq, Prod.mk.injEq] at H
    obtain ⟨rfl, rfl⟩ := H
    go_enter Try.func15, Try.ntmps15
    go_wp2_with (first | ((with_reducible refine gate_callee (f := 47) rfl ?_); refine goesL_ (some 9) rfl rfl Try.func47 (by kernel_rfl) rfl #[.slice A0 l0.length c0, .int .i64 a1] rfl (by (try simp only [aM1, aM2, aM3]); first | done | rfl | (simp only [List.length_drop, List.length_take]; rfl)) ?_; (with_reducible refine (spec_l26Box.calls k _ _ l0 a1 t101 _ ?side1 ?side2 A3.out).mono ?_); (case side1 => repeat (first | exact HR0.out | (with_reducible refine Kd.C_alloc ?_ _) | (with_reducible refine Kd.C_drewN ?_ _) | (with_reducible refine Kd.C_drew ?_))); (case side2 => exact HC0.out); rintro e w' ⟨rfl, ⟨nd, rfl⟩⟩; refine ⟨_, rfl, ?_⟩; have p102 : 0 ≤ (t101 : Int) := of_decide_eq_true (by first | (with_reducible assumption) | assumption); have q102 : t101 < (l0.length : Int) := of_decide_eq_true (by first | (with_reducible assumption) | assumption); obtain ⟨ad102, A102_1, c102_1, e102, hx102_0, hx102_1, hl102_1, hi102_1⟩ := at_T69 HR0.out t101 p102 q102; cases e102; have HR102_1 := Aside0.mk hi102_1; have HC102_1 := Aside0.mk hl102_1; clear hi102_1 hl102_1; replace p102 := eq_true p102; replace q102 := eq_true q102))
    go_ret2
    exact ⟨by first | rfl | (simp; done) | (simp [*]; done), by repeat (first | exact Drawn0.refl _ | apply Drawn0.step)⟩
   ·rw [if_neg c6] at H
    exact absurd H (by simp)
  ·rw [if_neg c5] at H
   exact absurd H (by simp)

end Go.Proofs.Ytdhndojmekcjhaa.X
set_option linter.unusedVariables false
set_option linter.unusedSimpArgs false
namespace Go.Proofs.Ytdhndojmekcjhaa.X
open Go.RowKit Go.Proofs.YtdhndojmekcjhaaW.PrintWords Go.Proofs.Ytdhndojmekcjhaa.E

/-- Is a number in a list? -/
theorem l1Has_ev (l : List Int) (n : Int) (hl : l.length ≤ 9223372036854775807) : Ev (fun k => spec_l1Has.f k l n) (decide (n ∈ l)) := by
  have h := ev_walk (L := fun k i => spec_l1Has.l0 k l n i) (G := fun _ r => decide (n ∈ r)) l (Ev.step (fun k => rfl) (ev_neg (by omega) (ev_now (by simp)))) ?step
  case step =>
    intro i x r hi hd hx hk
    refine Ev.step (fun k => rfl) (ev_pos (by omega) (ev_pos (by omega) ?_))
    simp only [rd, Int.toNat_natCast, hx]
    by_cases c : x = n
    · exact ev_pos c (ev_now (by simp [c]))
    · refine ev_neg c ?_
      rw [wrap_succ hi hl]
      have c' : ¬ n = x := fun h => c h.symm
      exact ev_cast hk (by simp [c'])
  exact h
theorem slicesIndexInt_ev (l : List Int) (n : Int) (hl : l.length ≤ 9223372036854775807) : Ev (fun k => slices_Index_int_int.f k l n) (idxG (fun x => decide (x = n)) 0 l) := by
  have h := ev_walk (L := fun k i => slices_Index_int_int.l0 k l n (l.length : Int) i) (G := fun i r => idxG (fun x => decide (x = n)) i r) l (Ev.step (fun k => rfl) (ev_neg (by omega) (ev_now rfl))) ?step
  case step =>
    intro i x r hi hd hx hk
    refine Ev.step (fun k => rfl) (ev_pos (by omega) (ev_pos (by omega) (ev_pos (by omega) ?_)))
    simp only [rd, Int.toNat_natCast, hx]
    by_cases c : n = x
    · exact ev_pos c (ev_now (by simp [idxG, c]))
    · refine ev_neg c ?_
      rw [wrap_succ hi hl]
      have c' : ¬ x = n := fun h => c h.symm
      exact ev_cast hk (by simp [idxG, c'])
  exact h
theorem slicesContainsInt_ev (l : List Int) (n : Int) (hl : l.length ≤ 9223372036854775807) : Ev (fun k => slices_Contains_int_int.f k l n) (decide (n ∈ l)) := by
  unfold slices_Contains_int_int.f
  refine Ev.bind (slicesIndexInt_ev l n hl) (ev_now ?_)
  rw [show decide (idxG (fun x => decide (x = n)) 0 l ≥ 0) = decide (0 ≤ idxG (fun x => decide (x = n)) 0 l) from rfl, idxG_nonneg, Bool.eq_iff_iff]
  simp [List.any_eq_true]
/-- The first box that holds the item. -/
def boxOf (bs : List S69) (n : Int) : Int × Bool := match bs.find? (fun b => decide (n ∈ b.f1)) with
  | some b => (b.f0, true)
  | none => (0, false)
theorem l26Box_ev (bs : List S69) (n : Int) (hl : bs.length ≤ 9223372036854775807) (hi : ∀ b ∈ bs, b.f1.length ≤ 9223372036854775807) : Ev (fun k => spec_l26Box.f k bs n) (idxG (fun b => decide (n ∈ b.f1)) 0 bs) := by
  have h := ev_walk (L := fun k i => spec_l26Box.l0 k bs n i) (G := fun i r => idxG (fun b : S69 => decide (n ∈ b.f1)) i r) bs (Ev.step (fun k => rfl) (ev_neg (by omega) (ev_now rfl))) ?step
  case step =>
    intro i x r hlt hd hx hk
    refine Ev.step (fun k => rfl) (ev_pos (by omega) (ev_pos (by omega) ?_))
    simp only [rd_T69, Int.toNat_natCast, hx]
    have hm : x ∈ bs := List.mem_of_getElem? (drop_cons hd x).2.2.2
    refine Ev.bind (l1Has_ev x.f1 n (hi x hm)) ?_
    by_cases c : n ∈ x.f1
    · exact ev_pos (by simp [c]) (ev_now (by simp [idxG, c]))
    · refine ev_neg (by simp [c]) ?_
      rw [wrap_succ hlt hl]
      exact ev_cast hk (by simp [idxG, c])
  exact h
theorem specBoxOf_ev (bs : List S69) (n : Int) (hl : bs.length ≤ 9223372036854775807) (hi : ∀ b ∈ bs, b.f1.length ≤ 9223372036854775807) : Ev (fun k => spec_BoxOf.f k bs n) (boxOf bs n) := by
  unfold spec_BoxOf.f
  refine Ev.bind (l26Box_ev bs n hl hi) ?_
  unfold boxOf
  rcases idxG_spec (fun b : S69 => decide (n ∈ b.f1)) bs 0 with ⟨h1, h2⟩ | ⟨j, x, h1, h2, h3, h4, h5, h6⟩
  · have h3 : bs.find? (fun b => decide (n ∈ b.f1)) = none := List.find?_eq_none.2 (fun x hx => by rw [h2 x hx]; simp)
    rw [h1, h3]
    exact ev_pos (by omega) (ev_now rfl)
  · rw [h2, h5]
    refine ev_neg (by omega) (ev_pos (by omega) (ev_pos (by omega) (ev_now ?_)))
    simp [rd_T69, List.getD_eq_getElem?_getD, h3]
theorem implBoxOf_ev (bs : List S69) (n : Int) (hl : bs.length ≤ 9223372036854775807) (hi : ∀ b ∈ bs, b.f1.length ≤ 9223372036854775807) : Ev (fun k => impl_BoxOf.f k bs n) (boxOf bs n) := by
  have h := ev_walk (L := fun k i => impl_BoxOf.l0 k n bs (bs.length : Int) i) (G := fun _ r => boxOf r n) bs (Ev.step (fun k => rfl) (ev_neg (by omega) (ev_now rfl))) ?step
  case step =>
    intro i x r hlt hd hx hk
    refine Ev.step (fun k => rfl) (ev_pos (by omega) (ev_pos (by omega) (ev_pos (by omega) ?_)))
    simp only [rd_T69, Int.toNat_natCast, hx]
    have hm : x ∈ bs := List.mem_of_getElem? (drop_cons hd x).2.2.2
    refine Ev.bind (slicesContainsInt_ev x.f1 n (hi x hm)) ?_
    by_cases c : n ∈ x.f1
    · exact ev_pos (by simp [c]) (ev_now (by simp [boxOf, c]))
    · refine ev_neg (by simp [c]) ?_
      rw [wrap_succ hlt hl]
      exact ev_cast hk (by simp [boxOf, c])
  exact h
end Go.Proofs.Ytdhndojmekcjhaa.X
set_option linter.unusedVariables false
set_option linter.unusedSimpArgs false
namespace Go.Proofs.Ytdhndojmekcjhaa.X
open Go.RowKit Go.Proofs.YtdhndojmekcjhaaW.PrintWords Go.Proofs.Ytdhndojmekcjhaa.E
abbrev wI (items : List Item) (i : Nat) : Int := (items.getD i z59).f2
abbrev mI (items : List Item) (i : Nat) : Int := (items.getD i z59).f1
def Sane (items : List Item) : Prop := items.length ≤ 12 ∧ ∀ i, i < items.length → itemAt items i = true
theorem sane_of {items : List Item} (h : itemsOk items = true) : Sane items := by
  unfold itemsOk at h
  by_cases c : (List.range items.length).all (itemAt items) = true
  · rw [if_pos c] at h
    simp at h
    exact ⟨by omega, all_range.1 c⟩
  · rw [if_neg c] at h; cases h
theorem Sane.weight {items : List Item} (h : Sane items) {i : Nat} (hi : i < items.length) : 1 ≤ wI items i ∧ wI items i ≤ 1000 := by
  have := h.2 i hi
  simp only [itemAt, Bool.and_eq_true, decide_eq_true_eq] at this
  exact this.1.2
theorem Sane.num {items : List Item} (h : Sane items) {i : Nat} (hi : i < items.length) : 1 ≤ (items.getD i z59).f0 ∧ (items.getD i z59).f0 ≤ 9999 := by
  have := h.2 i hi
  simp only [itemAt, Bool.and_eq_true, decide_eq_true_eq] at this
  exact this.1.1.1
theorem Sane.rise {items : List Item} (h : Sane items) : ∀ {j i : Nat}, i < items.length → j < i → (items.getD j z59).f0 < (items.getD i z59).f0 := by
  intro j i hi hj
  induction i with
  | zero => omega
  | succ i ih =>
    have := h.2 (i + 1) hi
    simp only [itemAt, Bool.and_eq_true, decide_eq_true_eq] at this
    have h1 := this.2 (by omega)
    simp only [Nat.add_sub_cancel] at h1
    by_cases e : j = i
    · subst e; exact h1
    · have := ih (by omega) (by omega)
      omega
/-- A list of places that all lie among the items. -/
def Places (items : List Item) (l : List Int) : Prop := ∀ x ∈ l, 0 ≤ x ∧ x < (items.length : Int)
abbrev at_ (l : List Int) (m : Nat) : Nat := (l.getD m 0).toNat
theorem Places.get {items : List Item} {l : List Int} (h : Places items l) {m : Nat} (hm : m < l.length) : 0 ≤ l.getD m 0 ∧ l.getD m 0 < (items.length : Int) ∧ at_ l m < items.length := by
  have := h _ (List.getElem_mem hm)
  rw [at_, getD_in hm]
  omega
def fitsI (items : List Item) (inside : List Int) (i : Nat) (cap : Int) : Bool :=
  if (List.range inside.length).all (fun m => shareB (mI items (at_ inside m)) (mI items i)) = true then decide (wI items i + sumTo (fun m => wI items (at_ inside m)) inside.length ≤ cap) else false
theorem fits_ev (items : List Item) (inside : List Int) (i : Nat) (cap : Int) (hs : Sane items) (hp : Places items inside) (hl : inside.length ≤ 1048576) (hi : i < items.length) :
    Ev (fun k => impl_fits.f k items inside i cap) (fitsI items inside i cap) := by
  unfold impl_fits.f
  refine ev_pos (by omega) (ev_pos (by omega) ?_)
  simp only [rd_T59, Int.toNat_natCast]
  have hb : ∀ m, m ≤ inside.length → 0 ≤ sumTo (fun m => wI items (at_ inside m)) m ∧ sumTo (fun m => wI items (at_ inside m)) m ≤ 1000 * m :=
    fun m hm => sumTo_bound (fun j hj => by have := hs.weight (hp.get (show j < inside.length by omega)).2.2; omega)
  have hw := hs.weight hi
  have h := ev_all (L := fun k (s : Int) j => impl_fits.l0 k items i cap s inside (inside.length : Int) j) inside.length (fun m => wI items i + sumTo (fun m => wI items (at_ inside m)) m)
    (fun m => shareB (mI items (at_ inside m)) (mI items i)) false (decide (wI items i + sumTo (fun m => wI items (at_ inside m)) inside.length ≤ cap))
    (fun _ => Ev.step (fun k => rfl) (ev_neg (by omega) (ev_now rfl))) ?h1 ?h2
  case h1 =>
    intro m hm _ hc y hy
    have g := hp.get hm
    refine Ev.step (fun k => rfl) (ev_pos (by omega) (ev_pos (by omega) (ev_pos (by omega) ?_)))
    simp only [rd_nat, rd_T59, Int.toNat_natCast, mayShare_eq]
    refine ev_pos (by omega) (ev_pos (by omega) (ev_pos (by omega) (ev_pos (by omega) (ev_pos hc ?_))))
    have h1 := hb m (by omega)
    have h2 : 1 ≤ (items.getD (inside.getD m 0).toNat z59).f2 ∧ (items.getD (inside.getD m 0).toNat z59).f2 ≤ 1000 := hs.weight g.2.2
    rw [show wrap64 (wI items i + sumTo (fun m => wI items (at_ inside m)) m + (items.getD (inside.getD m 0).toNat z59).f2) = wI items i + sumTo (fun m => wI items (at_ inside m)) (m + 1) from by
      rw [wrap_id (by omega) (by omega), sumTo, Int.add_assoc], wrap_succ hm (by omega)]
    exact hy
  case h2 =>
    intro m hm _ hc
    have g := hp.get hm
    refine Ev.step (fun k => rfl) (ev_pos (by omega) (ev_pos (by omega) (ev_pos (by omega) ?_)))
    simp only [rd_nat, rd_T59, Int.toNat_natCast, mayShare_eq]
    refine ev_pos (by omega) (ev_pos (by omega) (ev_pos (by omega) (ev_pos (by omega) (ev_neg ?_ (ev_now rfl)))))
    show ¬ shareB (mI items (at_ inside m)) (mI items i) = true
    rw [hc]; simp
  refine ev_cast (r := _) ?_ rfl
  have h0 : wI items i + sumTo (fun m => wI items (at_ inside m)) 0 = (items.getD i z59).f2 := by rw [sumTo, Int.add_zero]
  rw [h0] at h
  exact h
/-- Every number of the list is that of an item. -/
def Known (items : List Item) (l : List Int) : Prop := ∀ n ∈ l, 0 ≤ fnd items n
theorem fnd_range (items : List Item) (n : Int) (h : 0 ≤ fnd items n) : fnd items n < (items.length : Int) ∧ (items.getD (fnd items n).toNat z59).f0 = n := by
  rcases idxG_spec (fun x : Item => x.f0 == n) items 0 with ⟨h1, h2⟩ | ⟨j, x, h1, h2, h3, h4, h5, h6⟩
  · rw [fnd, h1] at h; omega
  · rw [fnd, h2]
    refine ⟨by omega, ?_⟩
    simp only [Nat.zero_add, Int.toNat_natCast]
    rw [List.getD_eq_getElem?_getD, h3]
    simpa using h4
abbrev pl (items : List Item) (l : List Int) (m : Nat) : Nat := (fnd items (l.getD m 0)).toNat
theorem Known.get {items : List Item} {l : List Int} (h : Known items l) {m : Nat} (hm : m < l.length) : 0 ≤ fnd items (l.getD m 0) ∧ fnd items (l.getD m 0) < (items.length : Int) ∧ pl items l m < items.length := by
  have h1 := h _ (List.getElem_mem hm)
  rw [← getD_in hm 0] at h1
  have h2 := (fnd_range items _ h1).1
  refine ⟨h1, h2, ?_⟩
  show (fnd items (l.getD m 0)).toNat < items.length
  omega
def pairOk (items : List Item) (l : List Int) (i : Nat) : Bool := (List.range i).all (fun k => shareB (mI items (pl items l i)) (mI items (pl items l k)))
def fitsL (items : List Item) (l : List Int) (cap : Int) : Bool := if (List.range l.length).all (pairOk items l) = true then decide (sumTo (fun m => wI items (pl items l m)) l.length ≤ cap) else false
theorem l26Fits_ev (items : List Item) (l : List Int) (cap : Int) (hs : Sane items) (hk : Known items l) (hl : l.length ≤ 1048576) : Ev (fun k => spec_l26Fits.f k items l cap) (fitsL items l cap) := by
  have hli : items.length ≤ 9223372036854775807 := by have := hs.1; omega
  have hb : ∀ m, m ≤ l.length → 0 ≤ sumTo (fun m => wI items (pl items l m)) m ∧ sumTo (fun m => wI items (pl items l m)) m ≤ 1000 * m :=
    fun m hm => sumTo_bound (fun j hj => by have := hs.weight (hk.get (show j < l.length by omega)).2.2; omega)
  have inner : ∀ (i : Nat) (s : Int) (a b c : Int), i < l.length → b = mI items (pl items l i) → ∀ y, (pairOk items l i = true → Ev (fun k => spec_l26Fits.l0 k items l cap s ((i + 1 : Nat) : Int)) y) → (pairOk items l i = false → y = false) →
      Ev (fun k => spec_l26Fits.l1 k items l cap s i 0 a b c) y := by
    intro i s a b c hi hbm y hy hn
    have h := ev_all0 (L := fun k j => spec_l26Fits.l1 k items l cap s i j a b c) i (fun k => shareB (mI items (pl items l i)) (mI items (pl items l k))) false y ?h0 ?h1 ?h2
    case h0 =>
      intro hC
      refine Ev.step (fun k => rfl) (ev_neg (by omega) ?_)
      rw [wrap_succ hi (by omega)]
      exact hy (all_range.2 hC)
    case h1 =>
      intro m hm _ hc z hz
      have g := hk.get (show m < l.length by omega)
      refine Ev.step (fun k => rfl) (ev_pos (by omega) (ev_pos (by omega) (ev_pos (by omega) ?_)))
      simp only [rd_nat, rd_T59, l26Share_eq]
      refine Ev.bind (l26Find_ev items _ hli) (ev_pos (by omega) (ev_pos (by omega) (ev_pos ?_ ?_)))
      · rw [hbm]; exact hc
      · rw [wrap_succ hm (by omega)]; exact hz
    case h2 =>
      intro m hm _ hc
      have g := hk.get (show m < l.length by omega)
      refine Ev.step (fun k => rfl) (ev_pos (by omega) (ev_pos (by omega) (ev_pos (by omega) ?_)))
      simp only [rd_nat, rd_T59, l26Share_eq]
      refine Ev.bind (l26Find_ev items _ hli) (ev_pos (by omega) (ev_pos (by omega) (ev_neg ?_ (ev_now rfl))))
      rw [hbm]
      show ¬ shareB (mI items (pl items l i)) (mI items (pl items l m)) = true
      rw [hc]; simp
    refine ev_cast h ?_
    by_cases c : (List.range i).all (fun k => shareB (mI items (pl items l i)) (mI items (pl items l k))) = true
    · rw [if_pos c]
    · rw [if_neg c]; exact (hn (by unfold pairOk; simpa using c)).symm
  have h := ev_all (L := fun k (s : Int) j => spec_l26Fits.l0 k items l cap s j) l.length (fun m => sumTo (fun m => wI items (pl items l m)) m) (pairOk items l) false (decide (sumTo (fun m => wI items (pl items l m)) l.length ≤ cap))
    (fun _ => Ev.step (fun k => rfl) (ev_neg (by omega) (ev_now rfl))) ?h1 ?h2
  case h1 =>
    intro m hm _ hc y hy
    have g := hk.get hm
    refine Ev.step (fun k => rfl) (ev_pos (by omega) (ev_pos (by omega) ?_))
    simp only [rd_nat, rd_T59]
    refine Ev.bind (l26Find_ev items _ hli) (ev_pos (by omega) (ev_pos (by omega) ?_))
    have h1 := hb m (by omega)
    have h2 : 1 ≤ (items.getD (fnd items (l.getD m 0)).toNat z59).f2 ∧ (items.getD (fnd items (l.getD m 0)).toNat z59).f2 ≤ 1000 := hs.weight g.2.2
    rw [show wrap64 (sumTo (fun m => wI items (pl items l m)) m + (items.getD (fnd items (l.getD m 0)).toNat z59).f2) = sumTo (fun m => wI items (pl items l m)) (m + 1) from by
      rw [wrap_id (by omega) (by omega)]; rfl]
    exact inner m _ _ _ _ hm rfl _ (fun _ => hy) (fun h => by rw [hc] at h; cases h)
  case h2 =>
    intro m hm _ hc
    have g := hk.get hm
    refine Ev.step (fun k => rfl) (ev_pos (by omega) (ev_pos (by omega) ?_))
    simp only [rd_nat, rd_T59]
    refine Ev.bind (l26Find_ev items _ hli) (ev_pos (by omega) (ev_pos (by omega) ?_))
    exact inner m _ _ _ _ hm rfl _ (fun h => by rw [hc] at h; cases h) (fun _ => rfl)
  exact h
def riseAt (l : List Int) (a b : Int) (i : Nat) : Bool := decide (a ≤ l.getD i 0 ∧ l.getD i 0 ≤ b) && decide (0 < i → l.getD (i - 1) 0 < l.getD i 0)
def rising (l : List Int) (a b : Int) : Bool := (List.range l.length).all (riseAt l a b)
theorem l1Rising_ev (l : List Int) (a b : Int) (hl : l.length ≤ 9223372036854775807) : Ev (fun k => spec_l1Rising.f k l a b) (rising l a b) := by
  have h := ev_all0 (L := fun k i => spec_l1Rising.l0 k l a b i) l.length (riseAt l a b) false true (fun _ => Ev.step (fun k => rfl) (ev_neg (by omega) (ev_now rfl))) ?h1 ?h2
  case h1 =>
    intro i hi _ hc y hy
    simp only [riseAt, Bool.and_eq_true, decide_eq_true_eq] at hc
    refine Ev.step (fun k => rfl) (ev_pos (by omega) (ev_pos (by omega) ?_))
    simp only [rd_nat, l1In_eq]
    refine ev_pos (by simpa using hc.1) ?_
    refine ev_ite (fun h0 => ?_) (fun h0 => ?_)
    · have hp := wrap_pred (i := i) (by omega) (by omega)
      simp only [hp, rd_nat]
      have := hc.2 (by omega)
      refine ev_pos (by omega) (ev_pos (by omega) (ev_neg (by omega) ?_))
      rw [wrap_succ hi hl]; exact hy
    · rw [wrap_succ hi hl]; exact hy
  case h2 =>
    intro i hi _ hc
    refine Ev.step (fun k => rfl) (ev_pos (by omega) (ev_pos (by omega) ?_))
    simp only [rd_nat, l1In_eq]
    refine ev_ite (fun h1 => ?_) (fun _ => ev_now rfl)
    have h4 : ¬ (0 < i → l.getD (i - 1) 0 < l.getD i 0) := by
      intro h4
      have : riseAt l a b i = true := by
        simp only [riseAt, Bool.and_eq_true, decide_eq_true_eq]
        exact ⟨by simpa using h1, h4⟩
      rw [this] at hc; cases hc
    have h5 : 0 < i := by
      rcases Nat.eq_zero_or_pos i with h | h
      · exact absurd (fun h' => by omega) h4
      · exact h
    have hp := wrap_pred (i := i) (by omega) (by omega)
    refine ev_pos (by omega) ?_
    simp only [hp, rd_nat]
    have : ¬ l.getD (i - 1) 0 < l.getD i 0 := fun h => h4 (fun _ => h)
    exact ev_pos (by omega) (ev_pos (by omega) (ev_pos (by omega) (ev_now rfl)))
  refine ev_cast h ?_
  unfold rising
  cases (List.range l.length).all (riseAt l a b) <;> rfl
end Go.Proofs.Ytdhndojmekcjhaa.X
set_option linter.unusedVariables false
set_option linter.unusedSimpArgs false
namespace Go.Proofs.Ytdhndojmekcjhaa.X
open Go.RowKit Go.Proofs.YtdhndojmekcjhaaW.PrintWords Go.Proofs.Ytdhndojmekcjhaa.E
abbrev bx (boxes : List Box) (i : Nat) : Box := boxes.getD i z69
def numAt (boxes : List Box) (i : Nat) : Bool := decide (1 ≤ (bx boxes i).f0 ∧ (bx boxes i).f0 ≤ 9999) && decide (0 < i → (bx boxes (i - 1)).f0 < (bx boxes i).f0)
abbrev boxIdx (boxes : List Box) (n : Int) : Int := idxG (fun b : Box => decide (n ∈ b.f1)) 0 boxes
def inBox (items : List Item) (boxes : List Box) (i k : Nat) : Bool := decide (0 ≤ fnd items ((bx boxes i).f1.getD k 0)) && decide (boxIdx boxes ((bx boxes i).f1.getD k 0) = (i : Int))
def boxS (items : List Item) (boxes : List Box) (cap : Int) (i : Nat) : Bool :=
  numAt boxes i && rising (bx boxes i).f1 1 9999 && (List.range (bx boxes i).f1.length).all (inBox items boxes i) && fitsL items (bx boxes i).f1 cap
/-- The numbers in the first boxes. -/
def prevL (boxes : List Box) (i : Nat) : List Int := (boxes.take i).flatMap (fun b => b.f1)
theorem prevL_succ {boxes : List Box} {i : Nat} (h : i < boxes.length) : prevL boxes (i + 1) = prevL boxes i ++ (bx boxes i).f1 := by
  unfold prevL
  rw [List.take_succ_eq_append_getElem h, List.flatMap_append]
  simp [bx, List.getD_eq_getElem?_getD, List.getElem?_eq_getElem h]
def small (boxes : List Box) : Prop := boxes.length + (boxes.map (fun b => b.f1.length)).sum ≤ 1048576
theorem small.box {boxes : List Box} (h : small boxes) {i : Nat} (hi : i < boxes.length) : (bx boxes i).f1.length ≤ 1048576 := by
  have := le_sum (f := fun b : Box => b.f1.length) (List.getElem_mem hi)
  unfold small at h
  rw [bx, getD_in hi]
  omega
theorem small.prev {boxes : List Box} (h : small boxes) (i : Nat) : (prevL boxes i).length ≤ 1048576 := by
  have h1 : ∀ (l : List Box), (l.flatMap (fun b => b.f1)).length = (l.map (fun b => b.f1.length)).sum := by
    intro l
    induction l with
    | nil => rfl
    | cons a r ih => simp [ih]
  have h2 : ∀ (l : List Box) (n : Nat), ((l.take n).map (fun b => b.f1.length)).sum ≤ (l.map (fun b => b.f1.length)).sum := by
    intro l
    induction l with
    | nil => intro n; simp
    | cons a r ih =>
      intro n
      cases n with
      | zero => simp
      | succ n => simp only [List.take_succ_cons, List.map_cons, List.sum_cons]; have := ih n; omega
  unfold prevL
  rw [h1]
  have := h2 boxes i
  unfold small at h
  omega
def goodR (items : List Item) (boxes : List Box) (cap : Int) : Bool := if (List.range boxes.length).all (boxS items boxes cap) = true then (((prevL boxes boxes.length).length : Int) == (items.length : Int)) else false
def good (items : List Item) (boxes : List Box) (cap : Int) : Bool := itemsOk items && decide ((boxes.length : Int) ≤ 12) && decide (1 ≤ cap ∧ cap ≤ 10000) && goodR items boxes cap
theorem known_of {items : List Item} {boxes : List Box} {i : Nat} (h : (List.range (bx boxes i).f1.length).all (inBox items boxes i) = true) : Known items (bx boxes i).f1 := by
  intro n hn
  obtain ⟨k, hk, rfl⟩ := List.getElem_of_mem hn
  have := all_range.1 h k hk
  simp only [inBox, Bool.and_eq_true, decide_eq_true_eq] at this
  rw [getD_in hk] at this
  exact this.1
theorem specValid_ev (items : List Item) (boxes : List Box) (cap : Int) (hl : items.length ≤ 9223372036854775807) (hb : small boxes) : Ev (fun k => spec_IsValidArchive.f k items boxes cap) (good items boxes cap) := by
  unfold spec_IsValidArchive.f
  refine Ev.bind (a := good items boxes cap) ?_ (ev_now rfl)
  unfold spec_l26Good.f
  refine Ev.bind (l26Items_ev items hl) ?_
  have hbl : boxes.length ≤ 1048576 := by unfold small at hb; omega
  have stop : ∀ (b : Bool), b = false → Ev (fun k => spec_l26Good.j0 k items boxes cap true) b := fun b hb => hb ▸ Ev.step (fun k => rfl) (ev_now rfl)
  by_cases c1 : itemsOk items = true
  case neg =>
    exact ev_neg c1 (stop _ (by unfold good; simp [c1]))
  refine ev_pos c1 ?_
  by_cases c2 : (boxes.length : Int) > 12
  · exact ev_pos c2 (stop _ (by unfold good; rw [decide_eq_false (by omega)]; simp))
  refine ev_neg c2 ?_
  simp only [l1In_eq]
  by_cases c3 : 1 ≤ cap ∧ cap ≤ 10000
  case neg =>
    have e : (!decide (1 ≤ cap ∧ cap ≤ 10000)) = true := by simp [c3]
    show Ev (fun k => spec_l26Good.j0 k items boxes cap (!decide (1 ≤ cap ∧ cap ≤ 10000))) _
    rw [e]
    exact stop _ (by unfold good; rw [decide_eq_false c3]; simp)
  have hs := sane_of c1
  have main : Ev (fun k => spec_l26Good.l0 k items boxes cap 0 0) (goodR items boxes cap) := by
    have h := ev_all (L := fun k (s : Int) i => spec_l26Good.l0 k items boxes cap s i) boxes.length (fun i => ((prevL boxes i).length : Int)) (boxS items boxes cap) false (((prevL boxes boxes.length).length : Int) == (items.length : Int))
      (fun _ => Ev.step (fun k => rfl) (ev_neg (by omega) (ev_now rfl))) ?h1 ?h2
    case h1 =>
      intro i hi _ hc y hy
      simp only [boxS, Bool.and_eq_true] at hc
      obtain ⟨⟨⟨hn, hr⟩, ha⟩, hf⟩ := hc
      have hk := known_of ha
      have hbi := hb.box hi
      simp only [numAt, Bool.and_eq_true, decide_eq_true_eq] at hn
      have tail : Ev (fun k => spec_l26Good.j2 k items boxes cap ((prevL boxes i).length : Int) i (!rising (bx boxes i).f1 1 9999) (bx boxes i).f0 (bx boxes i).f1) y := by
        refine Ev.step (fun k => rfl) (ev_neg (by rw [hr]; simp) ?_)
        have h := ev_all0 (L := fun k j => spec_l26Good.l1 k items boxes cap ((prevL boxes i).length : Int) i j (bx boxes i).f0 (bx boxes i).f1) (bx boxes i).f1.length (inBox items boxes i) y y ?g0 ?g1 ?g2
        case g0 =>
          intro _
          refine Ev.step (fun k => rfl) (ev_neg (by omega) (Ev.bind (l26Fits_ev items _ cap hs hk hbi) (ev_pos hf ?_)))
          have hp := hb.prev i
          rw [wrap_succ hi (by omega), show wrap64 (((prevL boxes i).length : Int) + ((bx boxes i).f1.length : Int)) = ((prevL boxes (i + 1)).length : Int) from by
            rw [wrap_id (by omega) (by omega), prevL_succ hi, List.length_append]; omega]
          exact hy
        case g1 =>
          intro m hm _ hc z hz
          simp only [inBox, Bool.and_eq_true, decide_eq_true_eq] at hc
          refine Ev.step (fun k => rfl) (ev_pos (by omega) (ev_pos (by omega) ?_))
          simp only [rd_nat]
          refine Ev.bind (l26Find_ev items _ hl) (ev_neg (by have := hc.1; omega) (Ev.bind (l26Box_ev boxes _ (by omega) (fun b hb' => ?_)) (ev_pos hc.2 ?_)))
          · obtain ⟨q, hq, rfl⟩ := List.getElem_of_mem hb'
            have := hb.box hq
            rw [bx, getD_in hq] at this
            omega
          · rw [wrap_succ hm (by omega)]; exact hz
        case g2 =>
          intro m hm _ hc
          rw [all_range.1 ha m hm] at hc; cases hc
        refine ev_cast h ?_
        split <;> rfl
      refine Ev.step (fun k => rfl) (ev_pos (by omega) (ev_pos (by omega) ?_))
      simp only [rd_T69, Int.toNat_natCast, l1In_eq]
      refine ev_pos (by simpa using hn.1) ?_
      refine ev_ite (fun h0 => ?_) (fun h0 => ?_)
      · have hp := wrap_pred (i := i) (by omega) (by omega)
        simp only [hp, Int.toNat_natCast]
        have := hn.2 (by omega)
        refine ev_pos (by omega) (ev_pos (by omega) (ev_neg (by simp only [bx] at this; omega) (Ev.bind (l1Rising_ev _ 1 9999 (by have := hbi; simp only [bx] at this; omega)) tail)))
      · exact Ev.bind (l1Rising_ev _ 1 9999 (by have := hbi; simp only [bx] at this; omega)) tail
    case h2 =>
      intro i hi _ hc
      have hbi := hb.box hi
      have badj : Ev (fun k => spec_l26Good.j2 k items boxes cap ((prevL boxes i).length : Int) i true (bx boxes i).f0 (bx boxes i).f1) false := Ev.step (fun k => rfl) (ev_now rfl)
      have tail : numAt boxes i = true → Ev (fun k => spec_l26Good.j2 k items boxes cap ((prevL boxes i).length : Int) i (!rising (bx boxes i).f1 1 9999) (bx boxes i).f0 (bx boxes i).f1) false := by
        intro hn
        by_cases hr : rising (bx boxes i).f1 1 9999 = true
        case neg => rw [Bool.eq_false_iff.2 hr]; exact badj
        refine Ev.step (fun k => rfl) (ev_neg (by rw [hr]; simp) ?_)
        have h := ev_all0 (L := fun k j => spec_l26Good.l1 k items boxes cap ((prevL boxes i).length : Int) i j (bx boxes i).f0 (bx boxes i).f1) (bx boxes i).f1.length (inBox items boxes i) false false ?g0 ?g1 ?g2
        case g0 =>
          intro hall
          have ha := all_range.2 hall
          have hf : fitsL items (bx boxes i).f1 cap = false := by
            unfold boxS at hc
            rw [hn, hr, ha] at hc
            simpa using hc
          refine Ev.step (fun k => rfl) (ev_neg (by omega) (Ev.bind (l26Fits_ev items _ cap hs (known_of ha) hbi) (ev_neg (by rw [hf]; simp) (ev_now rfl))))
        case g1 =>
          intro m hm _ hc z hz
          simp only [inBox, Bool.and_eq_true, decide_eq_true_eq] at hc
          refine Ev.step (fun k => rfl) (ev_pos (by omega) (ev_pos (by omega) ?_))
          simp only [rd_nat]
          refine Ev.bind (l26Find_ev items _ hl) (ev_neg (by have := hc.1; omega) (Ev.bind (l26Box_ev boxes _ (by omega) (fun b hb' => ?_)) (ev_pos hc.2 ?_)))
          · obtain ⟨q, hq, rfl⟩ := List.getElem_of_mem hb'
            have := hb.box hq
            rw [bx, getD_in hq] at this
            omega
          · rw [wrap_succ hm (by omega)]; exact hz
        case g2 =>
          intro m hm _ hc
          refine Ev.step (fun k => rfl) (ev_pos (by omega) (ev_pos (by omega) ?_))
          simp only [rd_nat]
          refine Ev.bind (l26Find_ev items _ hl) (ev_ite (fun _ => ev_now rfl) (fun h0 => Ev.bind (l26Box_ev boxes _ (by omega) (fun b hb' => ?_)) (ev_neg ?_ (ev_now rfl))))
          · obtain ⟨q, hq, rfl⟩ := List.getElem_of_mem hb'
            have := hb.box hq
            rw [bx, getD_in hq] at this
            omega
          · intro he
            have : inBox items boxes i m = true := by
              simp only [inBox, Bool.and_eq_true, decide_eq_true_eq]
              exact ⟨by omega, he⟩
            rw [this] at hc; cases hc
        refine ev_cast h ?_
        split <;> rfl
      refine Ev.step (fun k => rfl) (ev_pos (by omega) (ev_pos (by omega) ?_))
      simp only [rd_T69, Int.toNat_natCast, l1In_eq]
      refine ev_ite (fun h1 => ?_) (fun _ => badj)
      refine ev_ite (fun h0 => ?_) (fun h0 => ?_)
      · have hp := wrap_pred (i := i) (by omega) (by omega)
        simp only [hp, Int.toNat_natCast]
        refine ev_pos (by omega) (ev_pos (by omega) (ev_ite (fun _ => badj) (fun h2 => Ev.bind (l1Rising_ev _ 1 9999 (by have := hbi; simp only [bx] at this; omega)) (tail ?_))))
        simp only [numAt, Bool.and_eq_true, decide_eq_true_eq]
        exact ⟨by simpa using h1, fun _ => by simp only [bx]; omega⟩
      · refine Ev.bind (l1Rising_ev _ 1 9999 (by have := hbi; simp only [bx] at this; omega)) (tail ?_)
        simp only [numAt, Bool.and_eq_true, decide_eq_true_eq]
        exact ⟨by simpa using h1, fun _ => by omega⟩
    exact h
  refine ev_cast (r := goodR items boxes cap) ?_ (by unfold good; rw [c1, decide_eq_true (show (boxes.length : Int) ≤ 12 by omega), decide_eq_true c3]; simp)
  have : (!decide (1 ≤ cap ∧ cap ≤ 10000)) = false := by simp [c3]
  show Ev (fun k => spec_l26Good.j0 k items boxes cap (!decide (1 ≤ cap ∧ cap ≤ 10000))) _
  rw [this]
  exact Ev.step (fun k => rfl) main
end Go.Proofs.Ytdhndojmekcjhaa.X
set_option linter.unusedVariables false
set_option linter.unusedSimpArgs false
namespace Go.Proofs.Ytdhndojmekcjhaa.X
open Go.RowKit Go.Proofs.YtdhndojmekcjhaaW.PrintWords Go.Proofs.Ytdhndojmekcjhaa.E
theorem itemOf_eq (items : List Item) (n : Int) : impl_itemOf.f items n = some (fnd items n) := rfl
/-- Which items have been met: those whose numbers stand in a list. -/
def usedL (items : List Item) (s : List Int) : List Bool := items.map (fun x => decide (x.f0 ∈ s))
theorem usedL_length (items : List Item) (s : List Int) : (usedL items s).length = items.length := by simp [usedL]
theorem usedL_get {items : List Item} {s : List Int} {i : Nat} (h : i < items.length) : (usedL items s).getD i false = decide ((items.getD i z59).f0 ∈ s) := by
  simp [usedL, List.getD_eq_getElem?_getD, List.getElem?_eq_getElem h]
theorem usedL_set {items : List Item} (hs : Sane items) {s : List Int} {n : Int} (h : 0 ≤ fnd items n) : (usedL items s).set (fnd items n).toNat true = usedL items (s ++ [n]) := by
  have hr := fnd_range items n h
  apply List.ext_getElem
  · simp [usedL]
  · intro i h1 h2
    simp only [List.length_set, usedL_length] at h1
    rw [List.getElem_set]
    have e2 : (items.getD (fnd items n).toNat z59).f0 = n := hr.2
    by_cases c : (fnd items n).toNat = i
    · rw [if_pos c]
      simp only [usedL, List.getElem_map]
      rw [c, getD_in h1] at e2
      simp [e2]
    · rw [if_neg c]
      simp only [usedL, List.getElem_map]
      have hne : items[i].f0 ≠ n := by
        intro e
        have hj : (fnd items n).toNat < items.length := by omega
        rw [← getD_in h1 z59] at e
        rcases Nat.lt_trichotomy (fnd items n).toNat i with hlt | he | hlt
        · have := hs.rise h1 hlt; omega
        · exact c he
        · have := hs.rise hj hlt; omega
      simp [hne]
def stepI (items : List Item) (boxes : List Box) (cap : Int) (i k : Nat) : Bool :=
  decide (0 ≤ fnd items ((bx boxes i).f1.getD k 0)) && decide ((bx boxes i).f1.getD k 0 ∉ prevL boxes i ++ (bx boxes i).f1.take k) && decide (0 < k → (bx boxes i).f1.getD (k - 1) 0 < (bx boxes i).f1.getD k 0) &&
  fitsI items (((bx boxes i).f1.take k).map (fnd items)) (pl items (bx boxes i).f1 k) cap
def boxI (items : List Item) (boxes : List Box) (cap : Int) (i : Nat) : Bool := numAt boxes i && (List.range (bx boxes i).f1.length).all (stepI items boxes cap i)
def goodI (items : List Item) (boxes : List Box) (cap : Int) : Bool := if (List.range boxes.length).all (boxI items boxes cap) = true then (((prevL boxes boxes.length).length : Int) == (items.length : Int)) else false
def goodQ (items : List Item) (boxes : List Box) (cap : Int) : Bool := itemsOk items && decide ((boxes.length : Int) ≤ 12) && decide (1 ≤ cap ∧ cap ≤ 10000) && goodI items boxes cap
abbrev L1 (items : List Item) (boxes : List Box) (cap : Int) (i : Nat) : Nat → Int × List Bool × List Int → Int → Option Bool := fun k s j =>
  impl_IsValidArchive.l1 k items boxes cap s.1 s.2.1 s.2.2 boxes (boxes.length : Int) i (bx boxes i).f1 ((bx boxes i).f1.length : Int) j (bx boxes i).f0 (bx boxes i).f1
def st1 (items : List Item) (boxes : List Box) (i k : Nat) : Int × List Bool × List Int :=
  (((prevL boxes i).length : Int) + (k : Int), usedL items (prevL boxes i ++ (bx boxes i).f1.take k), ((bx boxes i).f1.take k).map (fnd items))
theorem inner_ev (items : List Item) (boxes : List Box) (cap : Int) (hs : Sane items) (hb : small boxes) (i : Nat) (hi : i < boxes.length) (y : Bool)
    (hy : (List.range (bx boxes i).f1.length).all (stepI items boxes cap i) = true → Ev (fun k => impl_IsValidArchive.l0 k items boxes cap ((prevL boxes (i + 1)).length : Int) (usedL items (prevL boxes (i + 1))) boxes (boxes.length : Int) ((i + 1 : Nat) : Int)) y) :
    Ev (fun k => L1 items boxes cap i k (st1 items boxes i 0) 0) (if (List.range (bx boxes i).f1.length).all (stepI items boxes cap i) = true then y else false) := by
  have hbi := hb.box hi
  have hbl : boxes.length ≤ 1048576 := by unfold small at hb; omega
  have hpi := hb.prev i
  have places : ∀ m, m ≤ (bx boxes i).f1.length → (∀ j, j < m → stepI items boxes cap i j = true) → Places items (((bx boxes i).f1.take m).map (fnd items)) := by
    intro m hm h x hx
    obtain ⟨n, hn, rfl⟩ := List.mem_map.1 hx
    obtain ⟨q, hq, rfl⟩ := List.getElem_of_mem hn
    have hq' : q < m := by simp at hq; omega
    have := h q hq'
    simp only [stepI, Bool.and_eq_true, decide_eq_true_eq] at this
    have h0 := this.1.1.1
    rw [List.getElem_take]
    rw [getD_in (by omega)] at h0
    exact ⟨h0, (fnd_range items _ h0).1⟩
  have h := ev_all (L := L1 items boxes cap i) (bx boxes i).f1.length (st1 items boxes i) (stepI items boxes cap i) false y ?h0 ?h1 ?h2
  case h0 =>
    intro hC
    refine Ev.step (fun k => rfl) (ev_neg (by omega) ?_)
    rw [wrap_succ hi (by omega)]
    refine cast (congrArg (fun g => Ev g y) ?_) (hy (all_range.2 hC))
    funext k
    simp only [st1, List.take_length]
    rw [prevL_succ hi, List.length_append]
    simp
  case h1 =>
    intro m hm hprev hc z hz
    have hp := places m (by omega) hprev
    simp only [stepI, Bool.and_eq_true, decide_eq_true_eq] at hc
    obtain ⟨⟨⟨h1, h2⟩, h3⟩, h4⟩ := hc
    have hr := fnd_range items _ h1
    have fev := fits_ev items (((bx boxes i).f1.take m).map (fnd items)) (pl items (bx boxes i).f1 m) cap hs hp (by simp; omega) (by show (fnd items _).toNat < _; omega)
    rw [show ((pl items (bx boxes i).f1 m : Nat) : Int) = fnd items ((bx boxes i).f1.getD m 0) from by show (((fnd items _).toNat : Nat) : Int) = _; omega] at fev
    have hgo : Ev (fun k => impl_IsValidArchive.l1 k items boxes cap (wrap64 ((st1 items boxes i m).1 + 1)) ((st1 items boxes i m).2.1.set (fnd items ((bx boxes i).f1.getD m 0)).toNat true) ((st1 items boxes i m).2.2 ++ [fnd items ((bx boxes i).f1.getD m 0)]) boxes (boxes.length : Int) i (bx boxes i).f1 ((bx boxes i).f1.length : Int) (wrap64 ((m : Int) + 1)) (bx boxes i).f0 (bx boxes i).f1) z := by
      refine cast (congrArg (fun g => Ev g z) ?_) hz
      funext k
      have e1 : wrap64 ((st1 items boxes i m).1 + 1) = (st1 items boxes i (m + 1)).1 := by
        simp only [st1]
        rw [wrap_id (by omega) (by omega)]; omega
      have e2 : (st1 items boxes i m).2.1.set (fnd items ((bx boxes i).f1.getD m 0)).toNat true = (st1 items boxes i (m + 1)).2.1 := by
        simp only [st1]
        rw [usedL_set hs h1, List.append_assoc, List.take_succ_eq_append_getElem hm, getD_in hm]
      have e3 : (st1 items boxes i m).2.2 ++ [fnd items ((bx boxes i).f1.getD m 0)] = (st1 items boxes i (m + 1)).2.2 := by
        simp only [st1]
        rw [List.take_succ_eq_append_getElem hm, List.map_append, getD_in hm]; rfl
      rw [e1, e2, e3, wrap_succ hm (by omega)]
    have hlen : (st1 items boxes i m).2.2.length < 17592186044416 := by simp [st1]; omega
    have hul : (st1 items boxes i m).2.1.length = items.length := usedL_length _ _
    have hused : ¬ rdOf false (st1 items boxes i m).2.1 (fnd items ((bx boxes i).f1.getD m 0)) = true := by
      simp only [rdOf, st1]
      rw [usedL_get (by omega), hr.2, decide_eq_true_eq]
      exact h2
    refine Ev.step (fun k => rfl) (ev_pos (by omega) (ev_pos (by omega) (ev_pos (by omega) ?_)))
    simp only [rd_nat, itemOf_eq]
    refine ev_some (ev_neg (by omega) (ev_pos (by omega) (ev_pos (by omega) (ev_neg hused ?_))))
    refine ev_ite (fun h0 => ?_) (fun h0 => ?_)
    · have hp' := wrap_pred (i := m) (by omega) (by omega)
      simp only [hp', rd_nat]
      have := h3 (by omega)
      exact ev_pos (by omega) (ev_pos (by omega) (ev_neg (by omega) (Ev.bind fev (ev_pos h4 (ev_pos hlen hgo)))))
    · exact Ev.bind fev (ev_pos h4 (ev_pos hlen hgo))
  case h2 =>
    intro m hm hprev hc
    have hp := places m (by omega) hprev
    have hul : (st1 items boxes i m).2.1.length = items.length := usedL_length _ _
    refine Ev.step (fun k => rfl) (ev_pos (by omega) (ev_pos (by omega) (ev_pos (by omega) ?_)))
    simp only [rd_nat, itemOf_eq]
    refine ev_some (ev_ite (fun _ => ev_now rfl) (fun h1 => ?_))
    have h1' : 0 ≤ fnd items ((bx boxes i).f1.getD m 0) := by omega
    have hr := fnd_range items _ h1'
    refine ev_pos (by omega) (ev_pos (by omega) (ev_ite (fun _ => ev_now rfl) (fun hused => ?_)))
    have h2 : (bx boxes i).f1.getD m 0 ∉ prevL boxes i ++ (bx boxes i).f1.take m := by
      simp only [rdOf, st1] at hused
      rw [usedL_get (by omega), hr.2, decide_eq_true_eq] at hused
      exact hused
    have fev := fits_ev items (((bx boxes i).f1.take m).map (fnd items)) (pl items (bx boxes i).f1 m) cap hs hp (by simp; omega) (by show (fnd items _).toNat < _; omega)
    rw [show ((pl items (bx boxes i).f1 m : Nat) : Int) = fnd items ((bx boxes i).f1.getD m 0) from by show (((fnd items _).toNat : Nat) : Int) = _; omega] at fev
    have h4 : (0 < m → (bx boxes i).f1.getD (m - 1) 0 < (bx boxes i).f1.getD m 0) → ¬ fitsI items (((bx boxes i).f1.take m).map (fnd items)) (pl items (bx boxes i).f1 m) cap = true := by
      intro h3 h4
      have : stepI items boxes cap i m = true := by
        simp only [stepI, Bool.and_eq_true, decide_eq_true_eq]
        exact ⟨⟨⟨h1', h2⟩, h3⟩, h4⟩
      rw [this] at hc; cases hc
    refine ev_ite (fun h0 => ?_) (fun h0 => ?_)
    · have hp' := wrap_pred (i := m) (by omega) (by omega)
      simp only [hp', rd_nat]
      refine ev_pos (by omega) (ev_pos (by omega) (ev_ite (fun _ => ev_now rfl) (fun h5 => Ev.bind fev (ev_neg (h4 (fun _ => by omega)) (ev_now rfl)))))
    · exact Ev.bind fev (ev_neg (h4 (fun h => by omega)) (ev_now rfl))
  exact h
theorem implValid_ev (items : List Item) (boxes : List Box) (cap : Int) (hl : items.length ≤ 9223372036854775807) (hb : small boxes) : Ev (fun k => impl_IsValidArchive.f k items boxes cap) (goodQ items boxes cap) := by
  unfold impl_IsValidArchive.f
  refine Ev.bind (areItems_ev items hl) ?_
  have hbl : boxes.length ≤ 1048576 := by unfold small at hb; omega
  have stop : ∀ (b : Bool), b = false → Ev (fun k => impl_IsValidArchive.j0 k items boxes cap true) b := fun b hb => hb ▸ Ev.step (fun k => rfl) (ev_now rfl)
  by_cases c1 : itemsOk items = true
  case neg => exact ev_neg c1 (stop _ (by unfold goodQ; simp [c1]))
  refine ev_pos c1 ?_
  simp only [impl_isCapacity.f, within_eq]
  refine ev_ite (fun c3 => ?_) (fun c3 => stop _ (by unfold goodQ; simp at c3; simp; omega))
  have c3' : 1 ≤ cap ∧ cap ≤ 10000 := by simpa using c3
  by_cases c2 : (boxes.length : Int) > 12
  · rw [decide_eq_true c2]
    exact stop _ (by unfold goodQ; rw [decide_eq_false (p := (boxes.length : Int) ≤ 12) (by omega)]; simp)
  rw [decide_eq_false c2]
  have hs := sane_of c1
  refine ev_cast (r := goodI items boxes cap) ?_ (by unfold goodQ; rw [c1, decide_eq_true (show (boxes.length : Int) ≤ 12 by omega), decide_eq_true c3']; simp)
  refine Ev.step (fun k => rfl) ?_
  show Ev (fun k => if 0 ≤ (items.length : Int) then (if ((items.length : Int) : Int).toNat ≤ 281474976710656 then (impl_IsValidArchive.l0 k items boxes cap 0 (List.replicate ((items.length : Int) : Int).toNat false) boxes (boxes.length : Int) 0) else (none)) else (none)) _
  refine ev_pos (by omega) (ev_pos (by have := hs.1; simp; omega) ?_)
  have e0 : List.replicate ((items.length : Int)).toNat false = usedL items (prevL boxes 0) := by
    apply List.ext_getElem
    · simp [usedL]
    · intro j h1 h2; simp [usedL, prevL]
  rw [e0]
  have h := ev_all (L := fun k (s : Int × List Bool) i => impl_IsValidArchive.l0 k items boxes cap s.1 s.2 boxes (boxes.length : Int) i) boxes.length (fun i => (((prevL boxes i).length : Int), usedL items (prevL boxes i))) (boxI items boxes cap) false (((prevL boxes boxes.length).length : Int) == (items.length : Int))
    (fun _ => Ev.step (fun k => rfl) (ev_neg (by omega) (ev_now rfl))) ?h1 ?h2
  case h1 =>
    intro i hi _ hc y hy
    simp only [boxI, numAt, Bool.and_eq_true, decide_eq_true_eq] at hc
    obtain ⟨hn, ha⟩ := hc
    have inn := inner_ev items boxes cap hs hb i hi y (fun _ => hy)
    rw [if_pos ha] at inn
    have hst : st1 items boxes i 0 = (((prevL boxes i).length : Int), usedL items (prevL boxes i), []) := by simp [st1]
    rw [hst] at inn
    have tail : Ev (fun k => impl_IsValidArchive.j2 k items boxes cap ((prevL boxes i).length : Int) (usedL items (prevL boxes i)) boxes (boxes.length : Int) i false (bx boxes i).f0 (bx boxes i).f1) y := Ev.step (fun k => rfl) inn
    refine Ev.step (fun k => rfl) (ev_pos (by omega) (ev_pos (by omega) (ev_pos (by omega) ?_)))
    simp only [rd_T69, Int.toNat_natCast, impl_isBoxNumber.f, within_eq]
    refine ev_pos (by simpa using hn.1) (ev_ite (fun h0 => ?_) (fun h0 => tail))
    have hp := wrap_pred (i := i) (by omega) (by omega)
    simp only [hp, Int.toNat_natCast]
    have := hn.2 (by omega)
    simp only [bx] at this
    rw [decide_eq_false (show ¬ (boxes.getD i z69).f0 ≤ (boxes.getD (i - 1) z69).f0 by omega)]
    exact ev_pos (by omega) (ev_pos (by omega) tail)
  case h2 =>
    intro i hi _ hc
    have bad : Ev (fun k => impl_IsValidArchive.j2 k items boxes cap ((prevL boxes i).length : Int) (usedL items (prevL boxes i)) boxes (boxes.length : Int) i true (bx boxes i).f0 (bx boxes i).f1) false := Ev.step (fun k => rfl) (ev_now rfl)
    have tail : numAt boxes i = true → Ev (fun k => impl_IsValidArchive.j2 k items boxes cap ((prevL boxes i).length : Int) (usedL items (prevL boxes i)) boxes (boxes.length : Int) i false (bx boxes i).f0 (bx boxes i).f1) false := by
      intro hn
      have ha : ¬ (List.range (bx boxes i).f1.length).all (stepI items boxes cap i) = true := by
        intro ha
        unfold boxI at hc
        rw [hn, ha] at hc
        cases hc
      -- the loop stops within this box
      have hst : st1 items boxes i 0 = (((prevL boxes i).length : Int), usedL items (prevL boxes i), []) := by simp [st1]
      have inn : Ev (fun k => L1 items boxes cap i k (st1 items boxes i 0) 0) false := by
        have h := inner_ev items boxes cap hs hb i hi false (fun h => absurd h ha)
        rw [if_neg ha] at h
        exact h
      rw [hst] at inn
      exact Ev.step (fun k => rfl) inn
    refine Ev.step (fun k => rfl) (ev_pos (by omega) (ev_pos (by omega) (ev_pos (by omega) ?_)))
    simp only [rd_T69, Int.toNat_natCast, impl_isBoxNumber.f, within_eq]
    refine ev_ite (fun h1 => ?_) (fun _ => ?_)
    · have h1' : 1 ≤ (bx boxes i).f0 ∧ (bx boxes i).f0 ≤ 9999 := by simpa using h1
      refine ev_ite (fun h0 => ?_) (fun h0 => tail ?_)
      · have hp := wrap_pred (i := i) (by omega) (by omega)
        simp only [hp, Int.toNat_natCast]
        refine ev_pos (by omega) (ev_pos (by omega) ?_)
        by_cases c : (boxes.getD i z69).f0 ≤ (boxes.getD (i - 1) z69).f0
        · rw [decide_eq_true c]; exact bad
        · rw [decide_eq_false c]
          refine tail ?_
          simp only [numAt, Bool.and_eq_true, decide_eq_true_eq]
          exact ⟨h1', fun _ => by simp only [bx]; omega⟩
      · simp only [numAt, Bool.and_eq_true, decide_eq_true_eq]
        exact ⟨h1', fun h => by omega⟩
    · exact bad
  exact h
end Go.Proofs.Ytdhndojmekcjhaa.X
set_option linter.unusedVariables false
set_option linter.unusedSimpArgs false
namespace Go.Proofs.Ytdhndojmekcjhaa.X
open Go.RowKit Go.Proofs.YtdhndojmekcjhaaW.PrintWords Go.Proofs.Ytdhndojmekcjhaa.E
theorem rise_lt {l : List Int} : ∀ {k : Nat}, k < l.length → (∀ j, j ≤ k → 0 < j → l.getD (j - 1) 0 < l.getD j 0) → ∀ m, m < k → l.getD m 0 < l.getD k 0
  | 0, _, _, m, hm => by omega
  | k + 1, hk, h, m, hm => by
    have h1 := h (k + 1) (Nat.le_refl _) (by omega)
    simp only [Nat.add_sub_cancel] at h1
    by_cases e : m = k
    · subst e; exact h1
    · have := rise_lt (l := l) (k := k) (by omega) (fun j hj h0 => h j (by omega) h0) m (by omega)
      omega
theorem boxIdx_iff {boxes : List Box} {i : Nat} (hi : i < boxes.length) {n : Int} (hn : n ∈ (bx boxes i).f1) : boxIdx boxes n = (i : Int) ↔ n ∉ prevL boxes i := by
  rcases idxG_spec (fun b : Box => decide (n ∈ b.f1)) boxes 0 with ⟨h1, h2⟩ | ⟨j, x, h1, h2, h3, h4, h5, h6⟩
  · have := h2 _ (List.getElem_mem hi)
    rw [bx, getD_in hi] at hn
    simp [hn] at this
  · have hx : boxes[i]? = some (bx boxes i) := by rw [bx, getD_in hi, List.getElem?_eq_getElem hi]
    have hji : j ≤ i := by
      rcases Nat.lt_or_ge i j with h | h
      · have := h6 i _ h hx
        rw [decide_eq_false_iff_not] at this
        exact absurd hn this
      · exact h
    rw [boxIdx, h2]
    constructor
    · intro e
      have e' : j = i := by omega
      subst e'
      intro hm
      simp only [prevL, List.mem_flatMap] at hm
      obtain ⟨b, hb, hnb⟩ := hm
      obtain ⟨q, hq, rfl⟩ := List.getElem_of_mem hb
      have hq' : q < j := by simp at hq; omega
      have := h6 q (boxes[q]'(by omega)) hq' (List.getElem?_eq_getElem (by omega))
      rw [List.getElem_take] at hnb
      simp [hnb] at this
    · intro hnp
      by_cases e : j = i
      · rw [e]; simp
      · exfalso
        refine hnp ?_
        simp only [prevL, List.mem_flatMap]
        refine ⟨x, ?_, by simpa using h4⟩
        have hj2 : j < (boxes.take i).length := by simp; omega
        have : (boxes.take i)[j]? = some x := by rw [List.getElem?_take_of_lt (by omega)]; exact h3
        exact List.mem_of_getElem? this
theorem fitsI_take {items : List Item} {l : List Int} {cap : Int} {k : Nat} (hk : k < l.length) :
    fitsI items ((l.take k).map (fnd items)) (pl items l k) cap = ((List.range k).all (fun m => shareB (mI items (pl items l m)) (mI items (pl items l k))) && decide (sumTo (fun m => wI items (pl items l m)) (k + 1) ≤ cap)) := by
  have hlen : ((l.take k).map (fnd items)).length = k := by simp; omega
  have hat : ∀ m, m < k → at_ ((l.take k).map (fnd items)) m = pl items l m := by
    intro m hm
    simp only [at_, pl]
    congr 1
    rw [getD_in (by rw [hlen]; exact hm), List.getElem_map, List.getElem_take, getD_in (by omega)]
  unfold fitsI
  rw [hlen]
  have e1 : (List.range k).all (fun m => shareB (mI items (at_ ((l.take k).map (fnd items)) m)) (mI items (pl items l k))) = (List.range k).all (fun m => shareB (mI items (pl items l m)) (mI items (pl items l k))) :=
    all_range_congr (fun m hm _ _ => by rw [hat m hm])
  have e2 : sumTo (fun m => wI items (at_ ((l.take k).map (fnd items)) m)) k = sumTo (fun m => wI items (pl items l m)) k := sumTo_congr (fun m hm => by rw [hat m hm])
  rw [e1, e2, sumTo, Int.add_comm]
  cases (List.range k).all (fun m => shareB (mI items (pl items l m)) (mI items (pl items l k))) <;> simp
theorem box_same {items : List Item} (hs : Sane items) {boxes : List Box} {cap : Int} (hcap : 1 ≤ cap) {i : Nat} (hi : i < boxes.length) : boxS items boxes cap i = boxI items boxes cap i := by
  unfold boxS boxI
  rw [Bool.and_assoc, Bool.and_assoc]
  congr 1
  rw [Bool.eq_iff_iff]
  simp only [Bool.and_eq_true, all_range, rising]
  constructor
  · rintro ⟨hr, ha, hf⟩ k hk
    have h1 := ha k hk
    simp only [inBox, Bool.and_eq_true, decide_eq_true_eq] at h1
    have hmem : (bx boxes i).f1.getD k 0 ∈ (bx boxes i).f1 := by rw [getD_in hk]; exact List.getElem_mem hk
    have hrise : ∀ j, j ≤ k → 0 < j → (bx boxes i).f1.getD (j - 1) 0 < (bx boxes i).f1.getD j 0 := by
      intro j hj h0
      have := hr j (by omega)
      simp only [riseAt, Bool.and_eq_true, decide_eq_true_eq] at this
      exact this.2 h0
    unfold fitsL at hf
    split at hf
    case isFalse => cases hf
    case isTrue hall =>
      rw [decide_eq_true_eq] at hf
      have hkn : Known items (bx boxes i).f1 := known_of (all_range.2 ha)
      have hmono := sumTo_mono (f := fun m => wI items (pl items (bx boxes i).f1 m)) (show k + 1 ≤ (bx boxes i).f1.length by omega) (fun m hm => by have := hs.weight (hkn.get hm).2.2; omega)
      simp only [stepI, Bool.and_eq_true, decide_eq_true_eq]
      refine ⟨⟨⟨h1.1, ?_⟩, hrise k (Nat.le_refl k)⟩, ?_⟩
      · rw [List.mem_append, not_or]
        refine ⟨(boxIdx_iff hi hmem).1 h1.2, fun hm => ?_⟩
        obtain ⟨q, hq, e⟩ := List.getElem_of_mem hm
        have hq' : q < k := by simp at hq; omega
        rw [List.getElem_take] at e
        have := rise_lt hk hrise q hq'
        rw [← e, getD_in (show q < (bx boxes i).f1.length by omega)] at this
        omega
      · rw [fitsI_take hk, Bool.and_eq_true, decide_eq_true_eq]
        refine ⟨?_, by omega⟩
        have := all_range.1 hall k hk
        rw [pairOk, all_range] at this
        rw [all_range]
        intro m hm
        rw [shareB_comm]
        exact this m hm
  · intro h
    have h' : ∀ k, k < (bx boxes i).f1.length → (0 ≤ fnd items ((bx boxes i).f1.getD k 0)) ∧ ((bx boxes i).f1.getD k 0 ∉ prevL boxes i ++ (bx boxes i).f1.take k) ∧ (0 < k → (bx boxes i).f1.getD (k - 1) 0 < (bx boxes i).f1.getD k 0) ∧
        (List.range k).all (fun m => shareB (mI items (pl items (bx boxes i).f1 m)) (mI items (pl items (bx boxes i).f1 k))) = true ∧ sumTo (fun m => wI items (pl items (bx boxes i).f1 m)) (k + 1) ≤ cap := by
      intro k hk
      have := h k hk
      simp only [stepI, Bool.and_eq_true, decide_eq_true_eq] at this
      rw [fitsI_take hk, Bool.and_eq_true, decide_eq_true_eq] at this
      exact ⟨this.1.1.1, this.1.1.2, this.1.2, this.2.1, this.2.2⟩
    refine ⟨?_, ?_, ?_⟩
    · intro k hk
      have := h' k hk
      simp only [riseAt, Bool.and_eq_true, decide_eq_true_eq]
      refine ⟨?_, this.2.2.1⟩
      have hr := fnd_range items _ this.1
      have := hs.num (show (fnd items ((bx boxes i).f1.getD k 0)).toNat < items.length by omega)
      rw [hr.2] at this
      exact this
    · intro k hk
      have := h' k hk
      simp only [inBox, Bool.and_eq_true, decide_eq_true_eq]
      refine ⟨this.1, (boxIdx_iff hi (by rw [getD_in hk]; exact List.getElem_mem hk)).2 (fun hm => this.2.1 (List.mem_append_left _ hm))⟩
    · unfold fitsL
      rw [if_pos, decide_eq_true_eq]
      · rcases Nat.eq_zero_or_pos (bx boxes i).f1.length with e | e
        · rw [e]; simp only [sumTo]; omega
        · have := (h' ((bx boxes i).f1.length - 1) (by omega)).2.2.2.2
          rw [show (bx boxes i).f1.length - 1 + 1 = (bx boxes i).f1.length from by omega] at this
          exact this
      · rw [all_range]
        intro k hk
        have := (h' k hk).2.2.2.1
        rw [all_range] at this
        rw [pairOk, all_range]
        intro m hm
        rw [shareB_comm]
        exact this m hm
theorem good_same (items : List Item) (boxes : List Box) (cap : Int) : good items boxes cap = goodQ items boxes cap := by
  unfold good goodQ
  by_cases c1 : itemsOk items = true
  case neg => simp [c1]
  by_cases c3 : 1 ≤ cap ∧ cap ≤ 10000
  case neg => simp [c3]
  congr 1
  unfold goodR goodI
  rw [all_range_congr (fun i hi _ _ => box_same (sane_of c1) c3.1 hi)]
end Go.Proofs.Ytdhndojmekcjhaa.X
set_option linter.unusedVariables false
namespace Go.Proofs.Ytdhndojmekcjhaa.X
open Go.RowKit Go.Proofs.YtdhndojmekcjhaaW.PrintWords Go.Proofs.Ytdhndojmekcjhaa.E
def wt68 (x : S68) : Nat := x.f1.length
end Go.Proofs.Ytdhndojmekcjhaa.X
set_option linter.unusedVariables false
namespace Go.Proofs.Ytdhndojmekcjhaa.X
open Go.RowKit Go.Proofs.YtdhndojmekcjhaaW.PrintWords Go.Proofs.Ytdhndojmekcjhaa.E
theorem laws_szItemS_ev (x : List (S77)) (g0 : x.length ≤ 9223372036854775807) (left : Int) (h0 : 0 ≤ left) (h1 : left ≤ 4611686018427387904) :
    Ev (fun k => laws_szItemS.f x left) (if ((x.length : Nat) : Int) ≤ left then left - ((x.length : Nat) : Int) else -1) := by
  unfold laws_szItemS.f
  have e0 : wrap64 (left - ((x.length : Nat) : Int)) = left - ((x.length : Nat) : Int) := wrap_id (by omega) (by omega)
  simp only [e0]
  by_cases c : ((x.length : Nat) : Int) ≤ left
  case neg => exact ev_pos (by omega) (ev_now (by first | rfl | rw [if_neg (by omega)]))
  refine ev_neg (by omega) ?_
  exact ev_now (by first | rfl | rw [if_pos (by omega)])
end Go.Proofs.Ytdhndojmekcjhaa.X
set_option linter.unusedVariables false
namespace Go.Proofs.Ytdhndojmekcjhaa.X
open Go.RowKit Go.Proofs.YtdhndojmekcjhaaW.PrintWords Go.Proofs.Ytdhndojmekcjhaa.E
theorem laws_szIntS_ev (x : List (Int)) (g0 : x.length ≤ 9223372036854775807) (left : Int) (h0 : 0 ≤ left) (h1 : left ≤ 4611686018427387904) :
    Ev (fun k => laws_szIntS.f x left) (if ((x.length : Nat) : Int) ≤ left then left - ((x.length : Nat) : Int) else -1) := by
  unfold laws_szIntS.f
  have e0 : wrap64 (left - ((x.length : Nat) : Int)) = left - ((x.length : Nat) : Int) := wrap_id (by omega) (by omega)
  simp only [e0]
  by_cases c : ((x.length : Nat) : Int) ≤ left
  case neg => exact ev_pos (by omega) (ev_now (by first | rfl | rw [if_neg (by omega)]))
  refine ev_neg (by omega) ?_
  exact ev_now (by first | rfl | rw [if_pos (by omega)])
end Go.Proofs.Ytdhndojmekcjhaa.X
set_option linter.unusedVariables false
namespace Go.Proofs.Ytdhndojmekcjhaa.X
open Go.RowKit Go.Proofs.YtdhndojmekcjhaaW.PrintWords Go.Proofs.Ytdhndojmekcjhaa.E
theorem laws_szArchiveBox_ev (x : S68) (g0 : x.f1.length ≤ 9223372036854775807) (left : Int) (h0 : 0 ≤ left) (h1 : left ≤ 4611686018427387904) :
    Ev (fun k => laws_szArchiveBox.f (x.f0) (x.f1) left) (if (((wt68 x) : Nat) : Int) ≤ left then left - (((wt68 x) : Nat) : Int) else -1) := by
  unfold laws_szArchiveBox.f
  unfold wt68
  refine Ev.bind (laws_szIntS_ev _ (by assumption) _ (by omega) (by omega)) ?_
  by_cases c1 : ((x.f1.length : Nat) : Int) ≤ left
  case neg =>
    rw [if_neg c1]
    exact ev_pos (by omega) (ev_now (by first | rfl | rw [if_neg (by omega)]))
  rw [if_pos c1]
  refine ev_neg (by omega) ?_
  exact ev_now (by first | rfl | omega | (rw [if_pos (by omega)]; omega))
end Go.Proofs.Ytdhndojmekcjhaa.X
set_option linter.unusedVariables false
namespace Go.Proofs.Ytdhndojmekcjhaa.X
open Go.RowKit Go.Proofs.YtdhndojmekcjhaaW.PrintWords Go.Proofs.Ytdhndojmekcjhaa.E
theorem laws_szArchiveBoxS_ev (x : List (S68)) (g0 : x.length ≤ 9223372036854775807) (g1 : ∀ y ∈ x, (y.f1.length ≤ 9223372036854775807)) (left : Int) (h0 : 0 ≤ left) (h1 : left ≤ 4611686018427387904) :
    Ev (fun k => laws_szArchiveBoxS.f k x left) (if (((x.length + (x.map (fun y => (wt68 y))).sum) : Nat) : Int) ≤ left then left - (((x.length + (x.map (fun y => (wt68 y))).sum) : Nat) : Int) else -1) := by
  unfold laws_szArchiveBoxS.f
  have e0 : wrap64 (left - ((x.length : Nat) : Int)) = left - ((x.length : Nat) : Int) := wrap_id (by omega) (by omega)
  simp only [e0]
  by_cases c : ((x.length : Nat) : Int) ≤ left
  case neg => exact ev_pos (by omega) (ev_now (by first | rfl | rw [if_neg (by omega)]))
  refine ev_neg (by omega) ?_
  have h := ev_sz (L := fun k l i => laws_szArchiveBoxS.l0 k x l i) x (fun y => (wt68 y)) (fun l => Ev.step (fun k => rfl) (ev_neg (by omega) (ev_now rfl))) ?step (left - ((x.length : Nat) : Int)) (by omega) (by omega)
  case step =>
    intro l i y r l0 l1 hi hm hd hy hn
    refine Ev.step (fun k => rfl) (ev_pos (by omega) (ev_pos (by omega) ?_))
    simp only [rd_T68, Int.toNat_natCast, hd]
    have hg := g1 y hm
    refine Ev.bind (laws_szArchiveBox_ev y (by assumption) l l0 l1) ?_
    by_cases c1 : (((wt68 y) : Nat) : Int) ≤ l
    case neg => rw [if_neg c1]; exact ev_pos (by omega) (ev_now (hn c1).symm)
    rw [if_pos c1]
    refine ev_neg (by omega) ?_
    rw [wrap_succ hi (by omega)]
    exact hy c1
  refine ev_cast h ?_
  by_cases c2 : (((x.map (fun y => (wt68 y))).sum : Nat) : Int) ≤ left - ((x.length : Nat) : Int)
  · rw [if_pos c2, if_pos (by omega)]; omega
  · rw [if_neg c2, if_neg (by omega)]
end Go.Proofs.Ytdhndojmekcjhaa.X
set_option linter.unusedVariables false
namespace Go.Proofs.Ytdhndojmekcjhaa.X
open Go.RowKit Go.Proofs.YtdhndojmekcjhaaW.PrintWords Go.Proofs.Ytdhndojmekcjhaa.E
def conv77 (x : S77) : S59 := ⟨x.f0, x.f1, x.f2⟩
theorem laws_toItem_ev (x : S77) : Ev (fun k => laws_toItem.f (x.f0) (x.f1) (x.f2)) ((conv77 x).f0, (conv77 x).f1, (conv77 x).f2) := by
  unfold laws_toItem.f
  exact ev_now rfl
end Go.Proofs.Ytdhndojmekcjhaa.X
set_option linter.unusedVariables false
namespace Go.Proofs.Ytdhndojmekcjhaa.X
open Go.RowKit Go.Proofs.YtdhndojmekcjhaaW.PrintWords Go.Proofs.Ytdhndojmekcjhaa.E
theorem laws_toItemS_ev (x : List (S77)) (hb : x.length ≤ 1048576) : Ev (fun k => laws_toItemS.f k x) (x.map conv77) := by
  unfold laws_toItemS.f
  refine ev_pos (by omega) (ev_pos (by simp only [Int.toNat_natCast]; omega) ?_)
  simp only [Int.toNat_natCast]
  refine ev_fill (L := fun k o i => laws_toItemS.l0 k x o i) x conv77 _ (fun o => Ev.step (fun k => rfl) (ev_neg (by omega) (ev_now rfl))) ?_
  intro o i y r hi hx hd hl hk
  refine Ev.step (fun k => rfl) (ev_pos (by omega) (ev_pos (by omega) ?_))
  simp only [rd_T77, Int.toNat_natCast, hd]
  refine Ev.bind (laws_toItem_ev y) ?_
  refine ev_pos (by omega) ?_
  rw [wrap_succ hi (by omega)]
  exact hk
end Go.Proofs.Ytdhndojmekcjhaa.X
set_option linter.unusedVariables false
namespace Go.Proofs.Ytdhndojmekcjhaa.X
open Go.RowKit Go.Proofs.YtdhndojmekcjhaaW.PrintWords Go.Proofs.Ytdhndojmekcjhaa.E
theorem laws_toIntS_ev (x : List (Int)) (hb : x.length ≤ 1048576) : Ev (fun k => laws_toIntS.f k x) (x) := by
  unfold laws_toIntS.f
  refine ev_pos (by omega) (ev_pos (by simp only [Int.toNat_natCast]; omega) ?_)
  simp only [Int.toNat_natCast]
  refine ev_cast (r := x.map id) ?_ (List.map_id x)
  refine ev_fill (L := fun k o i => laws_toIntS.l0 k x o i) x id _ (fun o => Ev.step (fun k => rfl) (ev_neg (by omega) (ev_now rfl))) ?_
  intro o i y r hi hx hd hl hk
  refine Ev.step (fun k => rfl) (ev_pos (by omega) (ev_pos (by omega) ?_))
  simp only [rd, Int.toNat_natCast, hd]
  refine ev_pos (by omega) ?_
  rw [wrap_succ hi (by omega)]
  exact hk
end Go.Proofs.Ytdhndojmekcjhaa.X
set_option linter.unusedVariables false
namespace Go.Proofs.Ytdhndojmekcjhaa.X
open Go.RowKit Go.Proofs.YtdhndojmekcjhaaW.PrintWords Go.Proofs.Ytdhndojmekcjhaa.E
def conv68 (x : S68) : S69 := ⟨x.f0, x.f1⟩
theorem laws_toArchiveBox_ev (x : S68) (hb : (wt68 x) ≤ 1048576) : Ev (fun k => laws_toArchiveBox.f k (x.f0) (x.f1)) ((conv68 x).f0, (conv68 x).f1) := by
  unfold laws_toArchiveBox.f
  unfold wt68 at hb
  refine Ev.bind (laws_toIntS_ev x.f1 (by omega)) ?_
  exact ev_now rfl
end Go.Proofs.Ytdhndojmekcjhaa.X
set_option linter.unusedVariables false
namespace Go.Proofs.Ytdhndojmekcjhaa.X
open Go.RowKit Go.Proofs.YtdhndojmekcjhaaW.PrintWords Go.Proofs.Ytdhndojmekcjhaa.E
theorem laws_toArchiveBoxS_ev (x : List (S68)) (hb : (x.length + (x.map (fun y => (wt68 y))).sum) ≤ 1048576) : Ev (fun k => laws_toArchiveBoxS.f k x) (x.map conv68) := by
  unfold laws_toArchiveBoxS.f
  refine ev_pos (by omega) (ev_pos (by simp only [Int.toNat_natCast]; omega) ?_)
  simp only [Int.toNat_natCast]
  refine ev_fill (L := fun k o i => laws_toArchiveBoxS.l0 k x o i) x conv68 _ (fun o => Ev.step (fun k => rfl) (ev_neg (by omega) (ev_now rfl))) ?_
  intro o i y r hi hx hd hl hk
  refine Ev.step (fun k => rfl) (ev_pos (by omega) (ev_pos (by omega) ?_))
  simp only [rd_T68, Int.toNat_natCast, hd]
  have hq := le_sum (f := fun y => (wt68 y)) (List.mem_of_getElem? hx)
  refine Ev.bind (laws_toArchiveBox_ev y (by omega)) ?_
  refine ev_pos (by omega) ?_
  rw [wrap_succ hi (by omega)]
  exact hk
end Go.Proofs.Ytdhndojmekcjhaa.X
set_option linter.unusedVariables false
namespace Go.Proofs.Ytdhndojmekcjhaa.X
open Go.RowKit Go.Proofs.YtdhndojmekcjhaaW.PrintWords Go.Proofs.Ytdhndojmekcjhaa.E
theorem laws_eqItem_ev (x : S59) : Ev (fun k => laws_eqItem.f (x.f0) (x.f1) (x.f2) (x.f0) (x.f1) (x.f2)) true := by
  unfold laws_eqItem.f
  repeat' (first | exact ev_now rfl | refine ev_pos rfl ?_ | refine ev_neg (by simp) ?_)
end Go.Proofs.Ytdhndojmekcjhaa.X
set_option linter.unusedVariables false
namespace Go.Proofs.Ytdhndojmekcjhaa.X
open Go.RowKit Go.Proofs.YtdhndojmekcjhaaW.PrintWords Go.Proofs.Ytdhndojmekcjhaa.E
theorem laws_eqItemS_ev (x : List (S59)) (hl0 : x.length ≤ 9223372036854775807) : Ev (fun k => laws_eqItemS.f k x x) true := by
  unfold laws_eqItemS.f
  refine ev_pos rfl ?_
  refine ev_same (L := fun k i => laws_eqItemS.l0 k x x i) x.length (Ev.step (fun k => rfl) (ev_neg (by omega) (ev_now rfl))) ?_
  intro i hi hk
  refine Ev.step (fun k => rfl) (ev_pos (by omega) (ev_pos (by omega) (ev_pos (by omega) ?_)))
  refine Ev.bind (laws_eqItem_ev _) ?_
  refine ev_pos rfl ?_
  rw [wrap_succ hi (by omega)]
  exact hk
end Go.Proofs.Ytdhndojmekcjhaa.X
set_option linter.unusedVariables false
namespace Go.Proofs.Ytdhndojmekcjhaa.X
open Go.RowKit Go.Proofs.YtdhndojmekcjhaaW.PrintWords Go.Proofs.Ytdhndojmekcjhaa.E
theorem laws_eqIntS_ev (x : List (Int)) (hl0 : x.length ≤ 9223372036854775807) : Ev (fun k => laws_eqIntS.f k x x) true := by
  unfold laws_eqIntS.f
  refine ev_pos rfl ?_
  refine ev_same (L := fun k i => laws_eqIntS.l0 k x x i) x.length (Ev.step (fun k => rfl) (ev_neg (by omega) (ev_now rfl))) ?_
  intro i hi hk
  refine Ev.step (fun k => rfl) (ev_pos (by omega) (ev_pos (by omega) (ev_pos (by omega) ?_)))
  refine ev_pos rfl ?_
  rw [wrap_succ hi (by omega)]
  exact hk
end Go.Proofs.Ytdhndojmekcjhaa.X
set_option linter.unusedVariables false
namespace Go.Proofs.Ytdhndojmekcjhaa.X
open Go.RowKit Go.Proofs.YtdhndojmekcjhaaW.PrintWords Go.Proofs.Ytdhndojmekcjhaa.E
theorem laws_eqArchiveBox_ev (x : S69) (hl0 : x.f1.length ≤ 9223372036854775807) : Ev (fun k => laws_eqArchiveBox.f k (x.f0) (x.f1) (x.f0) (x.f1)) true := by
  unfold laws_eqArchiveBox.f
  repeat' (first | exact ev_now rfl | refine ev_pos rfl ?_ | refine ev_neg (by simp) ?_ | refine Ev.bind (laws_eqIntS_ev _ (by assumption)) ?_)
end Go.Proofs.Ytdhndojmekcjhaa.X
set_option linter.unusedVariables false
namespace Go.Proofs.Ytdhndojmekcjhaa.X
open Go.RowKit Go.Proofs.YtdhndojmekcjhaaW.PrintWords Go.Proofs.Ytdhndojmekcjhaa.E
theorem laws_eqArchiveBoxS_ev (x : List (S69)) (hl0 : x.length ≤ 9223372036854775807) (hl1 : ∀ y ∈ x, (y.f1.length ≤ 9223372036854775807)) : Ev (fun k => laws_eqArchiveBoxS.f k x x) true := by
  unfold laws_eqArchiveBoxS.f
  refine ev_pos rfl ?_
  refine ev_same (L := fun k i => laws_eqArchiveBoxS.l0 k x x i) x.length (Ev.step (fun k => rfl) (ev_neg (by omega) (ev_now rfl))) ?_
  intro i hi hk
  refine Ev.step (fun k => rfl) (ev_pos (by omega) (ev_pos (by omega) (ev_pos (by omega) ?_)))
  have hy := hl1 _ (List.getElem_mem hi)
  have hr : rd_T69 x (i : Int) = x[i] := by simp [rd_T69, List.getD_eq_getElem?_getD, List.getElem?_eq_getElem hi]
  rw [hr]
  refine Ev.bind (laws_eqArchiveBox_ev _ (by first | exact hy | exact hy)) ?_
  refine ev_pos rfl ?_
  rw [wrap_succ hi (by omega)]
  exact hk
end Go.Proofs.Ytdhndojmekcjhaa.X
set_option linter.unusedVariables false
set_option linter.unusedSimpArgs false
namespace Go.Proofs.Ytdhndojmekcjhaa.Pure
open Go.RowKit Go.Proofs.Ytdhndojmekcjhaa.X Go.Proofs.YtdhndojmekcjhaaW.PrintWords Go.Proofs.Ytdhndojmekcjhaa.E
theorem small_conv (bs : List S68) (h : bs.length + (bs.map (fun y => wt68 y)).sum ≤ 1048576) : small (bs.map conv68) := by
  unfold small
  rw [List.length_map, List.map_map]
  exact h
theorem FnExactIsValidArchive : PureFnExactIsValidArchive := by
  intro items bs cap hi hb hn
  unfold laws_FnExactIsValidArchive.f
  refine ev_get (Ev.bind (laws_szItemS_ev items hi.1 1048576 (by omega) (by omega)) ?_)
  by_cases c0 : ((items.length : Nat) : Int) ≤ 1048576
  case neg => rw [if_neg c0]; exact ev_pos (by omega) (ev_now rfl)
  rw [if_pos c0]
  refine ev_neg (by omega) (Ev.bind (laws_szArchiveBoxS_ev bs hb.1 (fun y hy => (hb.2 y hy).2.1) _ (by omega) (by omega)) ?_)
  by_cases c : (((bs.length + (bs.map (fun y => wt68 y)).sum : Nat)) : Int) ≤ 1048576 - ((items.length : Nat) : Int)
  case neg => rw [if_neg c]; exact ev_pos (by omega) (ev_now rfl)
  rw [if_pos c]
  refine ev_neg (by omega) ?_
  have hw : ∀ b ∈ bs.map conv68, b.f1.length ≤ 9223372036854775807 := by
    intro b hb'
    obtain ⟨y, hy, rfl⟩ := List.mem_map.1 hb'
    exact (hb.2 y hy).2.1
  have hl : (bs.map conv68).length ≤ 9223372036854775807 := by rw [List.length_map]; exact hb.1
  have hli : (items.map conv77).length ≤ 9223372036854775807 := by rw [List.length_map]; exact hi.1
  have hto := laws_toArchiveBoxS_ev bs (by omega)
  have hti := laws_toItemS_ev items (by omega)
  have hsm := small_conv bs (by omega)
  refine Ev.bind hti (Ev.bind hto (Ev.bind (specValid_ev _ _ cap hli hsm) (Ev.bind hti (Ev.bind hto (Ev.bind (implValid_ev _ _ cap hli hsm) ?_)))))
  rw [good_same]
  refine ev_neg (by simp) (Ev.bind hti (Ev.bind (laws_eqItemS_ev _ hli) (ev_pos rfl (Ev.bind hto (Ev.bind (laws_eqArchiveBoxS_ev _ hl hw) (ev_pos rfl (ev_now rfl)))))))
end Go.Proofs.Ytdhndojmekcjhaa.Pure
namespace Go.Proofs.Ytdhndojmekcjhaa.fnExactIsValidArchive
open Go.ChangeShapes Go.WideShapes Go.ChangeAt Go.RowKit Go.Joins Go.Proofs.YtdhndojmekcjhaaW.PrintWords Go.Proofs.Ytdhndojmekcjhaa.Open Go.Proofs.Ytdhndojmekcjhaa.X
open Go.ChangeMaps (open_string shut_string)
set_option linter.unusedVariables false
theorem own : ownKnob Try.prog.godebug = none := by kernel_rfl
theorem laidOut : laidOutB Try.prog = true := by kernel_rfl
set_option maxRecDepth 100000 in
theorem lifted (os : Os) (started : os.Started) (H : Type) (enc : TypeId × Value → H) :
    ReturnsInHanded {} Try.checked os 6 .any (Rows.fnExactIsValidArchiveSpec.pre6 enc Try.prog Try.f6 Rows.fnExactIsValidArchiveRow.domain false) (Rows.fnExactIsValidArchiveSpec.post enc Try.prog Try.f6 false true false false) := by
  refine returnsInHanded_of_change_sized (C := Try.checked) own started (by kernel_rfl) Try.func6
    (ChangeSpec.witness6 (enc := enc) (C := Try.checked) false ⟨#[], #[.slice none 0 0, .slice none 0 0, .int .i64 0], []⟩ 8 (by kernel_rfl) (by kernel_rfl) (by kernel_rfl) (by kernel_rfl)) ?_
  intro W base args ds gs before hval0 hW hcnd hsz0 _
  have hval : ∀ (j : Nat) t v, Try.f6.params[j]? = some t → args[j]? = some v → Value.okWide Try.prog W .any base t v := hval0
  have hW' := hW
  obtain ⟨p, q, hA0, hV, rfl, hfz, hnd⟩ := hW
  have hA : DataW.TrodAll enc Try.prog W 0 (fun _ => true) true Try.f6.params.toList args.toList ds p := hA0
  rw [Try.params6] at hA hval
  obtain ⟨v0, vs0, d0, ds0, p0, q0, hargs, rfl, rfl, h0, r0⟩ := trodAll_cons hA
  obtain ⟨v1, vs1, d1, ds1, p1, q1, rfl, rfl, rfl, h1, r1⟩ := trodAll_cons r0
  obtain ⟨v2, vs2, d2, ds2, p2, q2, rfl, rfl, rfl, h2, r2⟩ := trodAll_cons r1
  obtain ⟨rfl, rfl, rfl⟩ := trodAll_nil r2
  obtain rfl : args = #[v0, v1, v2] := by cases args; simp_all
  obtain ⟨rfl, rfl⟩ := trodVars_none hV
  have kk0 := h0
  have lt0 : ∀ x ∈ p0, x.block < W.heap.size := by obtain ⟨m, hm⟩ := kk0; exact DataW.trod_lt m _ _ _ hm
  obtain ⟨A0, c0, a0, rfl, hc0, hr0, g0⟩ := arg_slice op33 (okWide_slice Try.underlying33 (hval 0 33 v0 rfl rfl)) h0
  have kk1 := h1
  have lt1 : ∀ x ∈ p1, x.block < W.heap.size := by obtain ⟨m, hm⟩ := kk1; exact DataW.trod_lt m _ _ _ hm
  obtain ⟨A1, c1, a1, rfl, hc1, hr1, g1⟩ := arg_slice op25 (okWide_slice Try.underlying25 (hval 1 25 v1 rfl rfl)) h1
  obtain ⟨a2, rfl, rfl, rfl, w2⟩ := open_int Try.underlying3 (hval 2 3 v2 rfl rfl) h2
  clear hA0 hval0 hsz0
  obtain ⟨k, hk⟩ := Pure.FnExactIsValidArchive a0 a1 a2 g0 g1 w2
  refine (X.laws_FnExactIsValidArchive.calls k _ _ a0 _ _ a1 a2 true W hr0 hc0 hr1 hc1 hk).mono ?_
  rintro e W' ⟨he, bel0⟩
  have bel : Below W.heap.size W W' := by first | exact bel0 | exact bel0.below
  subst he
  exact ⟨_, rfl, _, _, _, [], _, [], hW', trodAll_mk1 (shut_bool Try.underlying4 _), (trodAll_cons_mk (Below.trod laidOut (by kernel_rfl) (of_decide_eq_true (by kernel_rfl)) kk0 bel lt0) (trodAll_cons_mk (Below.trod laidOut (by kernel_rfl) (of_decide_eq_true (by kernel_rfl)) kk1 bel lt1) (trodAll_cons_mk (shut_int Try.underlying3 w2) trodAll_mk0))), rfl, bel.frame _, fun h => by cases h⟩
theorem over : Rows.fnExactIsValidArchiveRow.holds Try.pinned (OpenSpec.ofChange Rows.fnExactIsValidArchiveSpec) :=
  OpenClaim.holds_of_wide 6 Try.f6 rfl rfl rfl rfl rfl rfl rfl ⟨rfl, rfl, rfl, rfl, rfl⟩ rfl rfl rfl rfl rfl (by kernel_rfl) Try.func6 (by kernel_rfl)
    (of_decide_eq_true (by kernel_rfl)) (by unfold Func.isWrapper; first | (rw [if_pos (by decide +kernel)]; kernel_rfl) | (rw [if_neg (by decide +kernel)]; exact ⟨rfl, rfl⟩))
    (fun os started H enc _ => lifted os started H enc)
theorem proved : Rows.FnExactIsValidArchiveSaid := over
#print axioms proved
end Go.Proofs.Ytdhndojmekcjhaa.fnExactIsValidArchive
namespace Go.Proofs.Ytdhndojmekcjhaa
/-- The row, under a short name, for the claim. -/
theorem fnExactIsValidArchive_holds : Rows.FnExactIsValidArchiveSaid := fnExactIsValidArchive.proved
end Go.Proofs.Ytdhndojmekcjhaa
