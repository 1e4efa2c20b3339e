/- For all items and boxes the law FnExactMissingNumbers answers true. No condition beyond what a reading tells.
This file (part 4 of 4) holds what the proof needs: plain functions with rounds and contracts written by programs of this work over the translation, and the lemmas. -/
import Derived.Test.YtdbhelhoaciodaaZFnExactMissingNumbers2
import Derived.Test.YtdbhelhoaciodaaZFnExactMissingNumbers3
import Derived.Test.YtdbhelhoaciodaaZFnExactMissingNumbers1
import Derived.ChangeArms
import Derived.DataReads
import Derived.Deep.Slices
import Derived.ChangeOld
import Derived.OpenShut
import Derived.Lib.RowBridge
import Derived.Test.YtdbhelhoaciodaaRows
import Derived.WalkKit
import Derived.ProofKit
import Derived.ShutString
import Derived.Below
import Derived.SizedLaws
import Derived.Lib.SmallJoins
namespace Go.Proofs.Ytdbhelhoaciodaa.X
open Go.RowKit Go.Proofs.YtdbhelhoaciodaaW.PrintWords Go.Proofs.YtdbhelhoaciodaaW.PrintLast Go.Proofs.YtdbhelhoaciodaaW.PrintMore
set_option linter.unusedVariables false
set_option linter.unusedSimpArgs false
def laws_FnExactMissingNumbers.f (k : Nat) (l0 : List (S85)) (l1 : List (S78)) : Option Bool := (laws_szItemS.f l0 1048576).bind fun t1 => if t1 < 0 then some true else (laws_szArchiveBoxS.f k l1 t1).bind fun t6 => if t6 < 0 then some true else (laws_toItemS.f k l0).bind fun t11 => (laws_toArchiveBoxS.f k l1).bind fun t24 => (spec_MissingNumbers.f k t11 t24).bind fun ⟨t37, t38, t39⟩ => (laws_toItemS.f k l0).bind fun t63 => (laws_toArchiveBoxS.f k l1).bind fun t76 => (impl_MissingNumbers.f k t63 t76).bind fun ⟨t89, t90, t91⟩ => (laws_eqIntS.f k t89 t37).bind fun t115 => if t115 = true then (laws_eqIntS.f k t90 t38).bind fun t122 => if t122 = true then if t91 = t39 then (laws_toItemS.f k l0).bind fun t129 => (laws_eqItemS.f k t63 t129).bind fun t142 => if t142 = true then (laws_toArchiveBoxS.f k l1).bind fun t149 => (laws_eqArchiveBoxS.f k t76 t149).bind fun t162 => if t162 = true then (laws_markItemS.f k t63 1).bind fun ⟨t169, t170⟩ => (laws_markArchiveBoxS.f k t76 t169).bind fun ⟨t175, t176⟩ => if ¬ t175 < 0 then (laws_eqIntS.f k t89 t37).bind fun t181 => if t181 = true then (laws_eqIntS.f k t90 t38).bind fun t188 => if t188 = true then if t91 = t39 then (laws_markIntS.f k t89 1).bind fun ⟨t195, t196⟩ => (laws_markIntS.f k t90 t195).bind fun ⟨t201, t202⟩ => (laws_heldIntS.f k t196 1).bind fun t207 => if ¬ t207 < 0 then (laws_heldIntS.f k t202 t207).bind fun t212 => if ¬ t212 < 0 then if t212 = t201 then (laws_toItemS.f k l0).bind fun t217 => (laws_toArchiveBoxS.f k l1).bind fun t230 => (impl_MissingNumbers.f k t217 t230).bind fun ⟨t243, t244, t245⟩ => (laws_eqIntS.f k t243 t37).bind fun t269 => if t269 = true then (laws_eqIntS.f k t244 t38).bind fun t276 => if t276 = true then if t245 = t39 then (laws_heldIntS.f k t196 1).bind fun t283 => if ¬ t283 < 0 then (laws_heldIntS.f k t202 t283).bind fun t288 => if ¬ t288 < 0 then if t288 = t201 then some true else none else none else none else none else none else none else none else none else none else none else none else none else none else none else none else none else none else none
set_option maxHeartbeats 8000000 in
set_option maxRecDepth 100000 in
theorem laws_FnExactMissingNumbers.calls (k : Nat) (A0 : Option Addr) (c0 : Nat) (l0 : List (S85)) (A1 : Option Addr) (c1 : Nat) (l1 : List (S78)) (r : Bool) (w : World) (hr0 : Kd.C k85 w A0 l0.length l0) (hc0 : l0.length ≤ c0) (hr1 : Kd.C k78 w A1 l1.length l1) (hc1 : l1.length ≤ c1) (h : laws_FnExactMissingNumbers.f k l0 l1 = some r) :
  Calls Try.prog 3 #[.slice A0 l0.length c0, .slice A1 l1.length c1] w fun e w' => e = .returned (.bool r) ∧ Below w.heap.size w w' := by
 have HR0 := Aside0.mk hr0
 have HC0 := Aside0.mk hc0
 clear hr0 hc0
 have HR1 := Aside0.mk hr1
 have HC1 := Aside0.mk hc1
 clear hr1 hc1
 have HB := Aside0.mk (Below.refl w.heap.size w)
 have HS := Aside0.mk (Nat.le_refl w.heap.size)
 unfold laws_FnExactMissingNumbers.f at h
 have H := h
 clear h
 replace H := obS H; obtain ⟨t1, A_2, H⟩ := H
 by_cases c293 : t1 < 0
 ·rw [if_pos c293] at H
  have c293b := decide_eq_true c293
  clear c293
  obtain rfl := Option.some.inj H
  go_enter Try.func3, Try.ntmps3
  go_wp2_with (first | ((with_reducible refine gate_callee (f := 8) rfl ?_); refine gL (some 22) Try.func8 #[.slice A0 l0.length c0, .int .i64 1048576] ?_; (with_reducible refine (laws_szItemS.calls _ _ _ _ _ _ ?s_4 ?s_5 A_2.out).mono ?_); (case s_4 => exact Q60); (case s_5 => exact HC0.out); rintro e w' ⟨rfl, ⟨nd, rfl⟩⟩; refine ⟨_, rfl, ?_⟩))
  go_ret
  exact Q13
 rw [if_neg c293] at H
 have c293b := decide_eq_false c293
 clear c293
 replace H := obS H; obtain ⟨t6, A_7, H⟩ := H
 by_cases c294 : t6 < 0
 ·rw [if_pos c294] at H
  have c294b := decide_eq_true c294
  clear c294
  obtain rfl := Option.some.inj H
  go_enter Try.func3, Try.ntmps3
  go_wp2_with (first | ((with_reducible refine gate_callee (f := 8) rfl ?_); refine gL (some 22) Try.func8 #[.slice A0 l0.length c0, .int .i64 1048576] ?_; (with_reducible refine (laws_szItemS.calls _ _ _ _ _ _ ?s_4 ?s_5 A_2.out).mono ?_); (case s_4 => exact Q60); (case s_5 => exact HC0.out); rintro e w' ⟨rfl, ⟨nd, rfl⟩⟩; refine ⟨_, rfl, ?_⟩) | ((with_reducible refine gate_callee (f := 9) rfl ?_); refine gL (some 27) Try.func9 #[.slice A1 l1.length c1, .int .i64 t1] ?_; (with_reducible refine (laws_szArchiveBoxS.calls k _ _ _ _ _ _ ?s_9 ?s_10 A_7.out).mono ?_); (case s_9 => exact Q67); (case s_10 => exact HC1.out); rintro e w_8 ⟨rfl, hb⟩; refine ⟨_, rfl, ?_⟩; have n0_ := Aside0.mk (sI hb HB); have n1_ := Aside0.mk (leI hb HS); clear HB HS; have HB := n0_; have HS := n1_; clear n0_ n1_ hb))
  go_ret
  exact Q13
 rw [if_neg c294] at H
 have c294b := decide_eq_false c294
 clear c294
 replace H := obS H; obtain ⟨t11, A_12, H⟩ := H
 replace H := obS H; obtain ⟨t24, A_25, H⟩ := H
 replace H := obS H; obtain ⟨⟨t37, t38, t39⟩, A_40, H⟩ := H
 replace H := obS H; obtain ⟨t63, A_64, H⟩ := H
 replace H := obS H; obtain ⟨t76, A_77, H⟩ := H
 replace H := obS H; obtain ⟨⟨t89, t90, t91⟩, A_92, H⟩ := H
 replace H := obS H; obtain ⟨t115, A_116, H⟩ := H
 replace H := needS H; obtain ⟨c295, H⟩ := H
 subst c295
 replace H := obS H; obtain ⟨t122, A_123, H⟩ := H
 replace H := needS H; obtain ⟨c296, H⟩ := H
 subst c296
 replace H := needS H; obtain ⟨c297, H⟩ := H
 have c297b := bne_eq_false_iff_eq.mpr c297
 have c297d := beq_iff_eq.mpr c297
 clear c297
 replace H := obS H; obtain ⟨t129, A_130, H⟩ := H
 replace H := obS H; obtain ⟨t142, A_143, H⟩ := H
 replace H := needS H; obtain ⟨c298, H⟩ := H
 subst c298
 replace H := obS H; obtain ⟨t149, A_150, H⟩ := H
 replace H := obS H; obtain ⟨t162, A_163, H⟩ := H
 replace H := needS H; obtain ⟨c299, H⟩ := H
 subst c299
 replace H := obS H; obtain ⟨⟨t169, t170⟩, A_171, H⟩ := H
 replace H := obS H; obtain ⟨⟨t175, t176⟩, A_177, H⟩ := H
 replace H := needS H; obtain ⟨c300, H⟩ := H
 have c300b := decide_eq_false c300
 clear c300
 replace H := obS H; obtain ⟨t181, A_182, H⟩ := H
 replace H := needS H; obtain ⟨c301, H⟩ := H
 subst c301
 replace H := obS H; obtain ⟨t188, A_189, H⟩ := H
 replace H := needS H; obtain ⟨c302, H⟩ := H
 subst c302
 replace H := needS H; obtain ⟨c303, H⟩ := H
 have c303b := bne_eq_false_iff_eq.mpr c303
 have c303d := beq_iff_eq.mpr c303
 clear c303
 replace H := obS H; obtain ⟨⟨t195, t196⟩, A_197, H⟩ := H
 replace H := obS H; obtain ⟨⟨t201, t202⟩, A_203, H⟩ := H
 replace H := obS H; obtain ⟨t207, A_208, H⟩ := H
 replace H := needS H; obtain ⟨c304, H⟩ := H
 have c304b := decide_eq_false c304
 clear c304
 replace H := obS H; obtain ⟨t212, A_213, H⟩ := H
 replace H := needS H; obtain ⟨c305, H⟩ := H
 have c305b := decide_eq_false c305
 clear c305
 replace H := needS H; obtain ⟨c306, H⟩ := H
 have c306b := bne_eq_false_iff_eq.mpr c306
 have c306d := beq_iff_eq.mpr c306
 clear c306
 replace H := obS H; obtain ⟨t217, A_218, H⟩ := H
 replace H := obS H; obtain ⟨t230, A_231, H⟩ := H
 replace H := obS H; obtain ⟨⟨t243, t244, t245⟩, A_246, H⟩ := H
 replace H := obS H; obtain ⟨t269, A_270, H⟩ := H
 replace H := needS H; obtain ⟨c307, H⟩ := H
 subst c307
 replace H := obS H; obtain ⟨t276, A_277, H⟩ := H
 replace H := needS H; obtain ⟨c308, H⟩ := H
 subst c308
 replace H := needS H; obtain ⟨c309, H⟩ := H
 have c309b := bne_eq_false_iff_eq.mpr c309
 have c309d := beq_iff_eq.mpr c309
 clear c309
 replace H := obS H; obtain ⟨t283, A_284, H⟩ := H
 replace H := needS H; obtain ⟨c310, H⟩ := H
 have c310b := decide_eq_false c310
 clear c310
 replace H := obS H; obtain ⟨t288, A_289, H⟩ := H
 replace H := needS H; obtain ⟨c311, H⟩ := H
 have c311b := decide_eq_false c311
 clear c311
 replace H := needS H; obtain ⟨c312, H⟩ := H
 have c312b := bne_eq_false_iff_eq.mpr c312
 have c312d := beq_iff_eq.mpr c312
 clear c312
 obtain rfl := Option.some.inj H
 go_enter Try.func3, Try.ntmps3
 go_wp2_with (first | ((with_reducible refine gate_callee (f := 8) rfl ?_); refine gL (some 22) Try.func8 #[.slice A0 l0.length c0, .int .i64 1048576] ?_; (with_reducible refine (laws_szItemS.calls _ _ _ _ _ _ ?s_4 ?s_5 A_2.out).mono ?_); (case s_4 => exact Q60); (case s_5 => exact HC0.out); rintro e w' ⟨rfl, ⟨nd, rfl⟩⟩; refine ⟨_, rfl, ?_⟩) | ((with_reducible refine gate_callee (f := 9) rfl ?_); refine gL (some 27) Try.func9 #[.slice A1 l1.length c1, .int .i64 t1] ?_; (with_reducible refine (laws_szArchiveBoxS.calls k _ _ _ _ _ _ ?s_9 ?s_10 A_7.out).mono ?_); (case s_9 => exact Q67); (case s_10 => exact HC1.out); rintro e w_8 ⟨rfl, hb⟩; refine ⟨_, rfl, ?_⟩; have n0_ := Aside0.mk (sI hb HB); have n1_ := Aside0.mk (leI hb HS); clear HB HS; have HB := n0_; have HS := n1_; clear n0_ n1_ hb) | ((with_reducible refine gate_callee (f := 11) rfl ?_); refine gL (some 32) Try.func11 #[.slice A0 l0.length c0] ?_; (with_reducible refine (laws_toItemS.calls k _ _ _ _ _ ?s_14 ?s_15 A_12.out).mono ?_); (case s_14 => exact Q60); (case s_15 => exact HC0.out); rintro e w_13 ⟨v17, rfl, ho16, hb⟩; refine ⟨_, rfl, ?_⟩; obtain ⟨lo18, hi19, hle_, hsz_, hin_⟩ := newRng HB HS hb; have ho_0 := Aside0.mk (hin_.r ho16); have n0_ := Aside0.mk (sI hb HB); have n1_ := Aside0.mk (hsz_); clear HB HS; have HB := n0_; have HS := n1_; clear n0_ n1_ hb; have HE20 := Aside0.mk hle_; clear hle_ hsz_ hin_ ho16; have HO23 := ho_0; clear ho_0; obtain ⟨Ao21, co22, e_⟩ := Kd.R_slice (HO23.out); subst e_) | ((with_reducible refine gate_callee (f := 12) rfl ?_); refine gL (some 34) Try.func12 #[.slice A1 l1.length c1] ?_; (with_reducible refine (laws_toArchiveBoxS.calls k _ _ _ _ _ ?s_27 ?s_28 A_25.out).mono ?_); (case s_27 => exact Q67); (case s_28 => exact HC1.out); rintro e w_26 ⟨v30, rfl, ho29, hb⟩; refine ⟨_, rfl, ?_⟩; obtain ⟨lo31, hi32, hle_, hsz_, hin_⟩ := newRng HB HS hb; have ho_0 := Aside0.mk (hin_.s ho29); have n0_ := Aside0.mk (rbI hb HO23); have n1_ := Aside0.mk (sI hb HB); have n2_ := Aside0.mk (hsz_); clear HO23 HB HS; have HO23 := n0_; have HB := n1_; have HS := n2_; clear n0_ n1_ n2_ hb; have HE33 := Aside0.mk hle_; clear hle_ hsz_ hin_ ho29; have HO36 := ho_0; clear ho_0; obtain ⟨Ao34, co35, e_⟩ := Kd.R_slice (Kd.S_R HO36.out); subst e_) | ((with_reducible refine gate_callee (f := 10) rfl ?_); refine gL (some 35) Try.func10 #[.slice Ao21 t11.length co22, .slice Ao34 t24.length co35] ?_; (with_reducible refine (spec_MissingNumbers.calls k _ _ _ _ _ _ _ _ _ _ ?s_42 ?s_43 ?s_44 ?s_45 A_40.out).mono ?_); (case s_42 => exact (rcI HO23).1); (case s_43 => exact (rcR HO23).2); (case s_44 => exact (scI HO36).1); (case s_45 => exact (scR HO36).2); rintro e w_41 ⟨v48, v49, rfl, ho46, ho47, hb⟩; refine ⟨_, rfl, ?_⟩; obtain ⟨lo52, hi53, lo54, hi55, hi51, hle_, hsz_, hp0_, hp1_⟩ := newRng2 HB HS hb ho46 ho47; have hin_ := True.intro; have ho_0 := Aside0.mk hp0_; have ho_1 := Aside0.mk hp1_; have n0_ := Aside0.mk (rbI hb HO23); have n1_ := Aside0.mk (sbI hb HO36); have n2_ := Aside0.mk (sI hb HB); have n3_ := Aside0.mk (hsz_); clear HO23 HO36 HB HS; have HO23 := n0_; have HO36 := n1_; have HB := n2_; have HS := n3_; clear n0_ n1_ n2_ n3_ hb; clear hp0_ hp1_; have HE56 := Aside0.mk hle_; clear hle_ hsz_ hin_ ho46 ho47; have HO59 := ho_0; clear ho_0; obtain ⟨Ao57, co58, e_⟩ := Kd.R_slice (HO59.out); subst e_; have HO62 := ho_1; clear ho_1; obtain ⟨Ao60, co61, e_⟩ := Kd.R_slice (HO62.out); subst e_) | ((with_reducible refine gate_callee (f := 11) rfl ?_); refine gL (some 40) Try.func11 #[.slice A0 l0.length c0] ?_; (with_reducible refine (laws_toItemS.calls k _ _ _ _ _ ?s_66 ?s_67 A_64.out).mono ?_); (case s_66 => exact Q60); (case s_67 => exact HC0.out); rintro e w_65 ⟨v69, rfl, ho68, hb⟩; refine ⟨_, rfl, ?_⟩; obtain ⟨lo70, hi71, hle_, hsz_, hin_⟩ := newRng HB HS hb; have ho_0 := Aside0.mk (hin_.r ho68); have n0_ := Aside0.mk (rbI hb HO23); have n1_ := Aside0.mk (sbI hb HO36); have n2_ := Aside0.mk (rbI hb HO59); have n3_ := Aside0.mk (rbI hb HO62); have n4_ := Aside0.mk (sI hb HB); have n5_ := Aside0.mk (hsz_); clear HO23 HO36 HO59 HO62 HB HS; have HO23 := n0_; have HO36 := n1_; have HO59 := n2_; have HO62 := n3_; have HB := n4_; have HS := n5_; clear n0_ n1_ n2_ n3_ n4_ n5_ hb; have HE72 := Aside0.mk hle_; clear hle_ hsz_ hin_ ho68; have HO75 := ho_0; clear ho_0; obtain ⟨Ao73, co74, e_⟩ := Kd.R_slice (HO75.out); subst e_) | ((with_reducible refine gate_callee (f := 12) rfl ?_); refine gL (some 42) Try.func12 #[.slice A1 l1.length c1] ?_; (with_reducible refine (laws_toArchiveBoxS.calls k _ _ _ _ _ ?s_79 ?s_80 A_77.out).mono ?_); (case s_79 => exact Q67); (case s_80 => exact HC1.out); rintro e w_78 ⟨v82, rfl, ho81, hb⟩; refine ⟨_, rfl, ?_⟩; obtain ⟨lo83, hi84, hle_, hsz_, hin_⟩ := newRng HB HS hb; have ho_0 := Aside0.mk (hin_.s ho81); have n0_ := Aside0.mk (rbI hb HO23); have n1_ := Aside0.mk (sbI hb HO36); have n2_ := Aside0.mk (rbI hb HO59); have n3_ := Aside0.mk (rbI hb HO62); have n4_ := Aside0.mk (rbI hb HO75); have n5_ := Aside0.mk (sI hb HB); have n6_ := Aside0.mk (hsz_); clear HO23 HO36 HO59 HO62 HO75 HB HS; have HO23 := n0_; have HO36 := n1_; have HO59 := n2_; have HO62 := n3_; have HO75 := n4_; have HB := n5_; have HS := n6_; clear n0_ n1_ n2_ n3_ n4_ n5_ n6_ hb; have HE85 := Aside0.mk hle_; clear hle_ hsz_ hin_ ho81; have HO88 := ho_0; clear ho_0; obtain ⟨Ao86, co87, e_⟩ := Kd.R_slice (Kd.S_R HO88.out); subst e_) | ((with_reducible refine gate_callee (f := 13) rfl ?_); refine gL (some 46) Try.func13 #[.slice Ao73 t63.length co74, .slice Ao86 t76.length co87] ?_; (with_reducible refine (impl_MissingNumbers.calls k _ _ _ _ _ _ _ _ _ _ ?s_94 ?s_95 ?s_96 ?s_97 A_92.out).mono ?_); (case s_94 => exact (rcI HO75).1); (case s_95 => exact (rcR HO75).2); (case s_96 => exact (scI HO88).1); (case s_97 => exact (scR HO88).2); rintro e w_93 ⟨v100, v101, rfl, ho98, ho99, hb⟩; refine ⟨_, rfl, ?_⟩; obtain ⟨lo104, hi105, lo106, hi107, hi103, hle_, hsz_, hp0_, hp1_⟩ := newRng2 HB HS hb ho98 ho99; have hin_ := True.intro; have ho_0 := Aside0.mk hp0_; have ho_1 := Aside0.mk hp1_; have n0_ := Aside0.mk (rbI hb HO23); have n1_ := Aside0.mk (sbI hb HO36); have n2_ := Aside0.mk (rbI hb HO59); have n3_ := Aside0.mk (rbI hb HO62); have n4_ := Aside0.mk (rbI hb HO75); have n5_ := Aside0.mk (sbI hb HO88); have n6_ := Aside0.mk (sI hb HB); have n7_ := Aside0.mk (hsz_); clear HO23 HO36 HO59 HO62 HO75 HO88 HB HS; have HO23 := n0_; have HO36 := n1_; have HO59 := n2_; have HO62 := n3_; have HO75 := n4_; have HO88 := n5_; have HB := n6_; have HS := n7_; clear n0_ n1_ n2_ n3_ n4_ n5_ n6_ n7_ hb; clear hp0_ hp1_; have HE108 := Aside0.mk hle_; clear hle_ hsz_ hin_ ho98 ho99; have HO111 := ho_0; clear ho_0; obtain ⟨Ao109, co110, e_⟩ := Kd.R_slice (HO111.out); subst e_; have HO114 := ho_1; clear ho_1; obtain ⟨Ao112, co113, e_⟩ := Kd.R_slice (HO114.out); subst e_) | ((with_reducible refine gate_callee (f := 14) rfl ?_); refine gL (some 52) Try.func14 #[.slice Ao109 t89.length co110, .slice Ao57 t37.length co58] ?_; (with_reducible refine (laws_eqIntS.calls k _ _ _ _ _ _ _ _ ?s_118 ?s_119 ?s_120 ?s_121 A_116.out ⟨rfl⟩).mono ?_); (case s_118 => exact (rcI HO111).1); (case s_119 => exact (rcR HO111).2); (case s_120 => exact (rcI HO59).1); (case s_121 => exact (rcR HO59).2); rintro e w' ⟨rfl, ⟨nd, rfl⟩⟩; refine ⟨_, rfl, ?_⟩) | ((with_reducible refine gate_callee (f := 14) rfl ?_); refine gate_guard Q106 ?_; refine gL (some 57) Try.func14 #[.slice Ao112 t90.length co113, .slice Ao60 t38.length co61] ?_; (with_reducible refine (laws_eqIntS.calls k _ _ _ _ _ _ _ _ ?s_125 ?s_126 ?s_127 ?s_128 A_123.out ⟨rfl⟩).mono ?_); (case s_125 => exact (rcI HO114).1); (case s_126 => exact (rcR HO114).2); (case s_127 => exact (rcI HO62).1); (case s_128 => exact (rcR HO62).2); rintro e w' ⟨rfl, ⟨nd, rfl⟩⟩; refine ⟨_, rfl, ?_⟩) | ((with_reducible refine gate_callee (f := 11) rfl ?_); refine gL (some 67) Try.func11 #[.slice A0 l0.length c0] ?_; (with_reducible refine (laws_toItemS.calls k _ _ _ _ _ ?s_132 ?s_133 A_130.out).mono ?_); (case s_132 => exact Q60); (case s_133 => exact HC0.out); rintro e w_131 ⟨v135, rfl, ho134, hb⟩; refine ⟨_, rfl, ?_⟩; obtain ⟨lo136, hi137, hle_, hsz_, hin_⟩ := newRng HB HS hb; have ho_0 := Aside0.mk (hin_.r ho134); have n0_ := Aside0.mk (rbI hb HO23); have n1_ := Aside0.mk (sbI hb HO36); have n2_ := Aside0.mk (rbI hb HO59); have n3_ := Aside0.mk (rbI hb HO62); have n4_ := Aside0.mk (rbI hb HO75); have n5_ := Aside0.mk (sbI hb HO88); have n6_ := Aside0.mk (rbI hb HO111); have n7_ := Aside0.mk (rbI hb HO114); have n8_ := Aside0.mk (sI hb HB); have n9_ := Aside0.mk (hsz_); clear HO23 HO36 HO59 HO62 HO75 HO88 HO111 HO114 HB HS; have HO23 := n0_; have HO36 := n1_; have HO59 := n2_; have HO62 := n3_; have HO75 := n4_; have HO88 := n5_; have HO111 := n6_; have HO114 := n7_; have HB := n8_; have HS := n9_; clear n0_ n1_ n2_ n3_ n4_ n5_ n6_ n7_ n8_ n9_ hb; have HE138 := Aside0.mk hle_; clear hle_ hsz_ hin_ ho134; have HO141 := ho_0; clear ho_0; obtain ⟨Ao139, co140, e_⟩ := Kd.R_slice (HO141.out); subst e_) | ((with_reducible refine gate_callee (f := 15) rfl ?_); refine gL (some 68) Try.func15 #[.slice Ao73 t63.length co74, .slice Ao139 t129.length co140] ?_; (with_reducible refine (laws_eqItemS.calls k _ _ _ _ _ _ _ _ ?s_145 ?s_146 ?s_147 ?s_148 A_143.out ⟨rfl⟩).mono ?_); (case s_145 => exact (rcI HO75).1); (case s_146 => exact (rcR HO75).2); (case s_147 => exact (rcI HO141).1); (case s_148 => exact (rcR HO141).2); rintro e w_144 ⟨rfl, hb⟩; refine ⟨_, rfl, ?_⟩; have n0_ := Aside0.mk (rbI hb HO23); have n1_ := Aside0.mk (sbI hb HO36); have n2_ := Aside0.mk (rbI hb HO59); have n3_ := Aside0.mk (rbI hb HO62); have n4_ := Aside0.mk (rbI hb HO75); have n5_ := Aside0.mk (sbI hb HO88); have n6_ := Aside0.mk (rbI hb HO111); have n7_ := Aside0.mk (rbI hb HO114); have n8_ := Aside0.mk (rbI hb HO141); have n9_ := Aside0.mk (sI hb HB); have n10_ := Aside0.mk (leI hb HS); clear HO23 HO36 HO59 HO62 HO75 HO88 HO111 HO114 HO141 HB HS; have HO23 := n0_; have HO36 := n1_; have HO59 := n2_; have HO62 := n3_; have HO75 := n4_; have HO88 := n5_; have HO111 := n6_; have HO114 := n7_; have HO141 := n8_; have HB := n9_; have HS := n10_; clear n0_ n1_ n2_ n3_ n4_ n5_ n6_ n7_ n8_ n9_ n10_ hb) | ((with_reducible refine gate_callee (f := 12) rfl ?_); refine gL (some 72) Try.func12 #[.slice A1 l1.length c1] ?_; (with_reducible refine (laws_toArchiveBoxS.calls k _ _ _ _ _ ?s_152 ?s_153 A_150.out).mono ?_); (case s_152 => exact Q67); (case s_153 => exact HC1.out); rintro e w_151 ⟨v155, rfl, ho154, hb⟩; refine ⟨_, rfl, ?_⟩; obtain ⟨lo156, hi157, hle_, hsz_, hin_⟩ := newRng HB HS hb; have ho_0 := Aside0.mk (hin_.s ho154); have n0_ := Aside0.mk (rbI hb HO23); have n1_ := Aside0.mk (sbI hb HO36); have n2_ := Aside0.mk (rbI hb HO59); have n3_ := Aside0.mk (rbI hb HO62); have n4_ := Aside0.mk (rbI hb HO75); have n5_ := Aside0.mk (sbI hb HO88); have n6_ := Aside0.mk (rbI hb HO111); have n7_ := Aside0.mk (rbI hb HO114); have n8_ := Aside0.mk (rbI hb HO141); have n9_ := Aside0.mk (sI hb HB); have n10_ := Aside0.mk (hsz_); clear HO23 HO36 HO59 HO62 HO75 HO88 HO111 HO114 HO141 HB HS; have HO23 := n0_; have HO36 := n1_; have HO59 := n2_; have HO62 := n3_; have HO75 := n4_; have HO88 := n5_; have HO111 := n6_; have HO114 := n7_; have HO141 := n8_; have HB := n9_; have HS := n10_; clear n0_ n1_ n2_ n3_ n4_ n5_ n6_ n7_ n8_ n9_ n10_ hb; have HE158 := Aside0.mk hle_; clear hle_ hsz_ hin_ ho154; have HO161 := ho_0; clear ho_0; obtain ⟨Ao159, co160, e_⟩ := Kd.R_slice (Kd.S_R HO161.out); subst e_) | ((with_reducible refine gate_callee (f := 16) rfl ?_); refine gL (some 73) Try.func16 #[.slice Ao86 t76.length co87, .slice Ao159 t149.length co160] ?_; (with_reducible refine (laws_eqArchiveBoxS.calls k _ _ _ _ _ _ _ _ ?s_165 ?s_166 ?s_167 ?s_168 A_163.out ⟨rfl⟩).mono ?_); (case s_165 => exact (scI HO88).1); (case s_166 => exact (scR HO88).2); (case s_167 => exact (scI HO161).1); (case s_168 => exact (scR HO161).2); rintro e w_164 ⟨rfl, hb⟩; refine ⟨_, rfl, ?_⟩; have n0_ := Aside0.mk (rbI hb HO23); have n1_ := Aside0.mk (sbI hb HO36); have n2_ := Aside0.mk (rbI hb HO59); have n3_ := Aside0.mk (rbI hb HO62); have n4_ := Aside0.mk (rbI hb HO75); have n5_ := Aside0.mk (sbI hb HO88); have n6_ := Aside0.mk (rbI hb HO111); have n7_ := Aside0.mk (rbI hb HO114); have n8_ := Aside0.mk (rbI hb HO141); have n9_ := Aside0.mk (sbI hb HO161); have n10_ := Aside0.mk (sI hb HB); have n11_ := Aside0.mk (leI hb HS); clear HO23 HO36 HO59 HO62 HO75 HO88 HO111 HO114 HO141 HO161 HB HS; have HO23 := n0_; have HO36 := n1_; have HO59 := n2_; have HO62 := n3_; have HO75 := n4_; have HO88 := n5_; have HO111 := n6_; have HO114 := n7_; have HO141 := n8_; have HO161 := n9_; have HB := n10_; have HS := n11_; clear n0_ n1_ n2_ n3_ n4_ n5_ n6_ n7_ n8_ n9_ n10_ n11_ hb) | ((with_reducible refine gate_callee (f := 17) rfl ?_); refine gL (some 77) Try.func17 #[.slice Ao73 t63.length co74, .int .i64 1] ?_; (with_reducible refine (laws_markItemS.calls k (fun k_ => lo70 ≤ k_ ∧ k_ < hi71) _ _ _ _ _ w _ (eI HB) (rI HO75) A_171.out).mono ?_); rintro e w_172 ⟨rfl, ho173, hb, hk⟩; refine ⟨_, rfl, ?_⟩; have hkp := keptRng (lo := lo70) (hi := hi71) hk (fun k_ h_ => Q107); clear HO75; have n0_ := Aside0.mk (krI hkp HO23 Q108); have n1_ := Aside0.mk (ksI hkp HO36 Q108); have n2_ := Aside0.mk (krI hkp HO59 Q108); have n3_ := Aside0.mk (krI hkp HO62 Q108); have n4_ := Aside0.mk (ksI hkp HO88 Q108); have n5_ := Aside0.mk (krI hkp HO111 Q108); have n6_ := Aside0.mk (krI hkp HO114 Q108); have n7_ := Aside0.mk (krI hkp HO141 Q108); have n8_ := Aside0.mk (ksI hkp HO161 Q108); have n9_ := Aside0.mk (hb); have n10_ := Aside0.mk (leK hk HS); clear HO23 HO36 HO59 HO62 HO88 HO111 HO114 HO141 HO161 HB HS; have HO23 := n0_; have HO36 := n1_; have HO59 := n2_; have HO62 := n3_; have HO88 := n4_; have HO111 := n5_; have HO114 := n6_; have HO141 := n7_; have HO161 := n8_; have HB := n9_; have HS := n10_; clear n0_ n1_ n2_ n3_ n4_ n5_ n6_ n7_ n8_ n9_ n10_ hb hk hkp ho173) | ((with_reducible refine gate_callee (f := 18) rfl ?_); refine gL (some 80) Try.func18 #[.slice Ao86 t76.length co87, .int .i64 t169] ?_; (with_reducible refine (laws_markArchiveBoxS.calls k (fun k_ => lo83 ≤ k_ ∧ k_ < hi84) _ _ _ _ _ w _ (eI HB) (sbI0 HO88) A_177.out).mono ?_); rintro e w_178 ⟨rfl, ho179, hb, hk⟩; refine ⟨_, rfl, ?_⟩; have hkp := keptRng (lo := lo83) (hi := hi84) hk (fun k_ h_ => Q107); clear HO88; have n0_ := Aside0.mk (krI hkp HO23 Q108); have n1_ := Aside0.mk (ksI hkp HO36 Q108); have n2_ := Aside0.mk (krI hkp HO59 Q108); have n3_ := Aside0.mk (krI hkp HO62 Q108); have n4_ := Aside0.mk (krI hkp HO111 Q108); have n5_ := Aside0.mk (krI hkp HO114 Q108); have n6_ := Aside0.mk (krI hkp HO141 Q108); have n7_ := Aside0.mk (ksI hkp HO161 Q108); have n8_ := Aside0.mk (hb); have n9_ := Aside0.mk (leK hk HS); clear HO23 HO36 HO59 HO62 HO111 HO114 HO141 HO161 HB HS; have HO23 := n0_; have HO36 := n1_; have HO59 := n2_; have HO62 := n3_; have HO111 := n4_; have HO114 := n5_; have HO141 := n6_; have HO161 := n7_; have HB := n8_; have HS := n9_; clear n0_ n1_ n2_ n3_ n4_ n5_ n6_ n7_ n8_ n9_ hb hk hkp ho179) | ((with_reducible refine gate_callee (f := 14) rfl ?_); refine gate_guard Q106 ?_; refine gL (some 86) Try.func14 #[.slice Ao109 t89.length co110, .slice Ao57 t37.length co58] ?_; (with_reducible refine (laws_eqIntS.calls k _ _ _ _ _ _ _ _ ?s_184 ?s_185 ?s_186 ?s_187 A_182.out ⟨rfl⟩).mono ?_); (case s_184 => exact (rcI HO111).1); (case s_185 => exact (rcR HO111).2); (case s_186 => exact (rcI HO59).1); (case s_187 => exact (rcR HO59).2); rintro e w' ⟨rfl, ⟨nd, rfl⟩⟩; refine ⟨_, rfl, ?_⟩) | ((with_reducible refine gate_callee (f := 14) rfl ?_); refine gate_guard Q106 ?_; refine gL (some 92) Try.func14 #[.slice Ao112 t90.length co113, .slice Ao60 t38.length co61] ?_; (with_reducible refine (laws_eqIntS.calls k _ _ _ _ _ _ _ _ ?s_191 ?s_192 ?s_193 ?s_194 A_189.out ⟨rfl⟩).mono ?_); (case s_191 => exact (rcI HO114).1); (case s_192 => exact (rcR HO114).2); (case s_193 => exact (rcI HO62).1); (case s_194 => exact (rcR HO62).2); rintro e w' ⟨rfl, ⟨nd, rfl⟩⟩; refine ⟨_, rfl, ?_⟩) | ((with_reducible refine gate_callee (f := 19) rfl ?_); refine gL (some 102) Try.func19 #[.slice Ao109 t89.length co110, .int .i64 1] ?_; (with_reducible refine (laws_markIntS.calls k (fun k_ => lo104 ≤ k_ ∧ k_ < hi105) _ _ _ _ _ w _ (eI HB) (rI HO111) A_197.out).mono ?_); rintro e w_198 ⟨rfl, ho199, hb, hk⟩; refine ⟨_, rfl, ?_⟩; have hkp := keptRng (lo := lo104) (hi := hi105) hk (fun k_ h_ => Q107); have n0_ := Aside0.mk (krI hkp HO23 Q108); have n1_ := Aside0.mk (ksI hkp HO36 Q108); have n2_ := Aside0.mk (krI hkp HO59 Q108); have n3_ := Aside0.mk (krI hkp HO62 Q108); have n4_ := Aside0.mk (krI hkp HO114 Q108); have n5_ := Aside0.mk (krI hkp HO141 Q108); have n6_ := Aside0.mk (ksI hkp HO161 Q108); have n7_ := Aside0.mk (R_int_of (fun j_ hj_ => HO111.out.1 j_ hj_) (R_int_owns ho199)); have n8_ := Aside0.mk (hb); have n9_ := Aside0.mk (leK hk HS); clear HO23 HO36 HO59 HO62 HO114 HO141 HO161 HO111 HB HS; have HO23 := n0_; have HO36 := n1_; have HO59 := n2_; have HO62 := n3_; have HO114 := n4_; have HO141 := n5_; have HO161 := n6_; have HO111 := n7_; have HB := n8_; have HS := n9_; clear n0_ n1_ n2_ n3_ n4_ n5_ n6_ n7_ n8_ n9_ hb hk hkp ho199) | ((with_reducible refine gate_callee (f := 19) rfl ?_); refine gL (some 105) Try.func19 #[.slice Ao112 t90.length co113, .int .i64 t195] ?_; (with_reducible refine (laws_markIntS.calls k (fun k_ => lo106 ≤ k_ ∧ k_ < hi107) _ _ _ _ _ w _ (eI HB) (rI HO114) A_203.out).mono ?_); rintro e w_204 ⟨rfl, ho205, hb, hk⟩; refine ⟨_, rfl, ?_⟩; have hkp := keptRng (lo := lo106) (hi := hi107) hk (fun k_ h_ => Q107); have n0_ := Aside0.mk (krI hkp HO23 Q108); have n1_ := Aside0.mk (ksI hkp HO36 Q108); have n2_ := Aside0.mk (krI hkp HO59 Q108); have n3_ := Aside0.mk (krI hkp HO62 Q108); have n4_ := Aside0.mk (krI hkp HO111 Q108); have n5_ := Aside0.mk (krI hkp HO141 Q108); have n6_ := Aside0.mk (ksI hkp HO161 Q108); have n7_ := Aside0.mk (R_int_of (fun j_ hj_ => HO114.out.1 j_ hj_) (R_int_owns ho205)); have n8_ := Aside0.mk (hb); have n9_ := Aside0.mk (leK hk HS); clear HO23 HO36 HO59 HO62 HO111 HO141 HO161 HO114 HB HS; have HO23 := n0_; have HO36 := n1_; have HO59 := n2_; have HO62 := n3_; have HO111 := n4_; have HO141 := n5_; have HO161 := n6_; have HO114 := n7_; have HB := n8_; have HS := n9_; clear n0_ n1_ n2_ n3_ n4_ n5_ n6_ n7_ n8_ n9_ hb hk hkp ho205) | ((with_reducible refine gate_callee (f := 20) rfl ?_); refine gL (some 108) Try.func20 #[.slice Ao109 t89.length co110, .int .i64 1] ?_; refine calls_of_args (args' := #[.slice Ao109 t196.length co110, .int .i64 1]) (by rw [← rlI HO111]) ?_; (with_reducible refine (laws_heldIntS.calls k _ _ _ _ _ _ ?s_210 ?s_211 A_208.out).mono ?_); (case s_210 => exact (rcI HO111).1); (case s_211 => exact (rcR HO111).2); rintro e w' ⟨rfl, ⟨nd, rfl⟩⟩; refine ⟨_, rfl, ?_⟩) | ((with_reducible refine gate_callee (f := 20) rfl ?_); refine gL (some 113) Try.func20 #[.slice Ao112 t90.length co113, .int .i64 t207] ?_; refine calls_of_args (args' := #[.slice Ao112 t202.length co113, .int .i64 t207]) (by rw [← rlI HO114]) ?_; (with_reducible refine (laws_heldIntS.calls k _ _ _ _ _ _ ?s_215 ?s_216 A_213.out).mono ?_); (case s_215 => exact (rcI HO114).1); (case s_216 => exact (rcR HO114).2); rintro e w' ⟨rfl, ⟨nd, rfl⟩⟩; refine ⟨_, rfl, ?_⟩) | ((with_reducible refine gate_callee (f := 11) rfl ?_); refine gL (some 121) Try.func11 #[.slice A0 l0.length c0] ?_; (with_reducible refine (laws_toItemS.calls k _ _ _ _ _ ?s_220 ?s_221 A_218.out).mono ?_); (case s_220 => exact Q60); (case s_221 => exact HC0.out); rintro e w_219 ⟨v223, rfl, ho222, hb⟩; refine ⟨_, rfl, ?_⟩; obtain ⟨lo224, hi225, hle_, hsz_, hin_⟩ := newRng HB HS hb; have ho_0 := Aside0.mk (hin_.r ho222); have n0_ := Aside0.mk (rbI hb HO23); have n1_ := Aside0.mk (sbI hb HO36); have n2_ := Aside0.mk (rbI hb HO59); have n3_ := Aside0.mk (rbI hb HO62); have n4_ := Aside0.mk (rbI hb HO111); have n5_ := Aside0.mk (rbI hb HO114); have n6_ := Aside0.mk (rbI hb HO141); have n7_ := Aside0.mk (sbI hb HO161); have n8_ := Aside0.mk (sI hb HB); have n9_ := Aside0.mk (hsz_); clear HO23 HO36 HO59 HO62 HO111 HO114 HO141 HO161 HB HS; have HO23 := n0_; have HO36 := n1_; have HO59 := n2_; have HO62 := n3_; have HO111 := n4_; have HO114 := n5_; have HO141 := n6_; have HO161 := n7_; have HB := n8_; have HS := n9_; clear n0_ n1_ n2_ n3_ n4_ n5_ n6_ n7_ n8_ n9_ hb; have HE226 := Aside0.mk hle_; clear hle_ hsz_ hin_ ho222; have HO229 := ho_0; clear ho_0; obtain ⟨Ao227, co228, e_⟩ := Kd.R_slice (HO229.out); subst e_) | ((with_reducible refine gate_callee (f := 12) rfl ?_); refine gL (some 123) Try.func12 #[.slice A1 l1.length c1] ?_; (with_reducible refine (laws_toArchiveBoxS.calls k _ _ _ _ _ ?s_233 ?s_234 A_231.out).mono ?_); (case s_233 => exact Q67); (case s_234 => exact HC1.out); rintro e w_232 ⟨v236, rfl, ho235, hb⟩; refine ⟨_, rfl, ?_⟩; obtain ⟨lo237, hi238, hle_, hsz_, hin_⟩ := newRng HB HS hb; have ho_0 := Aside0.mk (hin_.s ho235); have n0_ := Aside0.mk (rbI hb HO23); have n1_ := Aside0.mk (sbI hb HO36); have n2_ := Aside0.mk (rbI hb HO59); have n3_ := Aside0.mk (rbI hb HO62); have n4_ := Aside0.mk (rbI hb HO111); have n5_ := Aside0.mk (rbI hb HO114); have n6_ := Aside0.mk (rbI hb HO141); have n7_ := Aside0.mk (sbI hb HO161); have n8_ := Aside0.mk (rbI hb HO229); have n9_ := Aside0.mk (sI hb HB); have n10_ := Aside0.mk (hsz_); clear HO23 HO36 HO59 HO62 HO111 HO114 HO141 HO161 HO229 HB HS; have HO23 := n0_; have HO36 := n1_; have HO59 := n2_; have HO62 := n3_; have HO111 := n4_; have HO114 := n5_; have HO141 := n6_; have HO161 := n7_; have HO229 := n8_; have HB := n9_; have HS := n10_; clear n0_ n1_ n2_ n3_ n4_ n5_ n6_ n7_ n8_ n9_ n10_ hb; have HE239 := Aside0.mk hle_; clear hle_ hsz_ hin_ ho235; have HO242 := ho_0; clear ho_0; obtain ⟨Ao240, co241, e_⟩ := Kd.R_slice (Kd.S_R HO242.out); subst e_) | ((with_reducible refine gate_callee (f := 13) rfl ?_); refine gL (some 124) Try.func13 #[.slice Ao227 t217.length co228, .slice Ao240 t230.length co241] ?_; (with_reducible refine (impl_MissingNumbers.calls k _ _ _ _ _ _ _ _ _ _ ?s_248 ?s_249 ?s_250 ?s_251 A_246.out).mono ?_); (case s_248 => exact (rcI HO229).1); (case s_249 => exact (rcR HO229).2); (case s_250 => exact (scI HO242).1); (case s_251 => exact (scR HO242).2); rintro e w_247 ⟨v254, v255, rfl, ho252, ho253, hb⟩; refine ⟨_, rfl, ?_⟩; obtain ⟨lo258, hi259, lo260, hi261, hi257, hle_, hsz_, hp0_, hp1_⟩ := newRng2 HB HS hb ho252 ho253; have hin_ := True.intro; have ho_0 := Aside0.mk hp0_; have ho_1 := Aside0.mk hp1_; have n0_ := Aside0.mk (rbI hb HO23); have n1_ := Aside0.mk (sbI hb HO36); have n2_ := Aside0.mk (rbI hb HO59); have n3_ := Aside0.mk (rbI hb HO62); have n4_ := Aside0.mk (rbI hb HO111); have n5_ := Aside0.mk (rbI hb HO114); have n6_ := Aside0.mk (rbI hb HO141); have n7_ := Aside0.mk (sbI hb HO161); have n8_ := Aside0.mk (rbI hb HO229); have n9_ := Aside0.mk (sbI hb HO242); have n10_ := Aside0.mk (sI hb HB); have n11_ := Aside0.mk (hsz_); clear HO23 HO36 HO59 HO62 HO111 HO114 HO141 HO161 HO229 HO242 HB HS; have HO23 := n0_; have HO36 := n1_; have HO59 := n2_; have HO62 := n3_; have HO111 := n4_; have HO114 := n5_; have HO141 := n6_; have HO161 := n7_; have HO229 := n8_; have HO242 := n9_; have HB := n10_; have HS := n11_; clear n0_ n1_ n2_ n3_ n4_ n5_ n6_ n7_ n8_ n9_ n10_ n11_ hb; clear hp0_ hp1_; have HE262 := Aside0.mk hle_; clear hle_ hsz_ hin_ ho252 ho253; have HO265 := ho_0; clear ho_0; obtain ⟨Ao263, co264, e_⟩ := Kd.R_slice (HO265.out); subst e_; have HO268 := ho_1; clear ho_1; obtain ⟨Ao266, co267, e_⟩ := Kd.R_slice (HO268.out); subst e_) | ((with_reducible refine gate_callee (f := 14) rfl ?_); refine gL (some 130) Try.func14 #[.slice Ao263 t243.length co264, .slice Ao57 t37.length co58] ?_; (with_reducible refine (laws_eqIntS.calls k _ _ _ _ _ _ _ _ ?s_272 ?s_273 ?s_274 ?s_275 A_270.out ⟨rfl⟩).mono ?_); (case s_272 => exact (rcI HO265).1); (case s_273 => exact (rcR HO265).2); (case s_274 => exact (rcI HO59).1); (case s_275 => exact (rcR HO59).2); rintro e w' ⟨rfl, ⟨nd, rfl⟩⟩; refine ⟨_, rfl, ?_⟩) | ((with_reducible refine gate_callee (f := 14) rfl ?_); refine gate_guard Q106 ?_; refine gL (some 135) Try.func14 #[.slice Ao266 t244.length co267, .slice Ao60 t38.length co61] ?_; (with_reducible refine (laws_eqIntS.calls k _ _ _ _ _ _ _ _ ?s_279 ?s_280 ?s_281 ?s_282 A_277.out ⟨rfl⟩).mono ?_); (case s_279 => exact (rcI HO268).1); (case s_280 => exact (rcR HO268).2); (case s_281 => exact (rcI HO62).1); (case s_282 => exact (rcR HO62).2); rintro e w' ⟨rfl, ⟨nd, rfl⟩⟩; refine ⟨_, rfl, ?_⟩) | ((with_reducible refine gate_callee (f := 20) rfl ?_); refine gL (some 145) Try.func20 #[.slice Ao109 t89.length co110, .int .i64 1] ?_; refine calls_of_args (args' := #[.slice Ao109 t196.length co110, .int .i64 1]) (by rw [← rlI HO111]) ?_; (with_reducible refine (laws_heldIntS.calls k _ _ _ _ _ _ ?s_286 ?s_287 A_284.out).mono ?_); (case s_286 => exact (rcI HO111).1); (case s_287 => exact (rcR HO111).2); rintro e w' ⟨rfl, ⟨nd, rfl⟩⟩; refine ⟨_, rfl, ?_⟩) | ((with_reducible refine gate_callee (f := 20) rfl ?_); refine gL (some 150) Try.func20 #[.slice Ao112 t90.length co113, .int .i64 t283] ?_; refine calls_of_args (args' := #[.slice Ao112 t202.length co113, .int .i64 t283]) (by rw [← rlI HO114]) ?_; (with_reducible refine (laws_heldIntS.calls k _ _ _ _ _ _ ?s_291 ?s_292 A_289.out).mono ?_); (case s_291 => exact (rcI HO114).1); (case s_292 => exact (rcR HO114).2); rintro e w' ⟨rfl, ⟨nd, rfl⟩⟩; refine ⟨_, rfl, ?_⟩))
 go_ret
 exact Q13
end Go.Proofs.Ytdbhelhoaciodaa.X
set_option linter.unusedVariables false
set_option linter.unusedSimpArgs false
namespace Go.Proofs.Ytdbhelhoaciodaa.Open
open Go.RowKit Go.Proofs.YtdbhelhoaciodaaW.PrintWords
def Opens (P : Program) (t : TypeId) {α : Type} (d : Kd α) (good : α → Prop) : Prop :=
 ∀ (H : Type) (enc : TypeId × Value → H) (w : World) (fuel : Nat) (cs : List Value) (x : DataW H × List MemPlace),
  DataW.trod enc P w 0 (fun _ => true) true fuel t cs = some x → ∃ a, d.K w a cs ∧ good a
theorem opens_int {P : Program} {t : TypeId} {k : IntKind} (ht : P.underlying t = some (.int k)) : Opens P t (Kd.int k) (fun n => (Lit.int k n).wf = true) := by
 intro H enc w fuel cs x hx
 obtain ⟨n, rfl, _, hw⟩ := DataW.trod_int ht hx
 exact ⟨n, rfl, hw⟩
theorem cells_each {w : World} {a : Addr} {n : Nat} {cs : List Value} (h : w.cells? 0 a n = some cs) : cs.length = n ∧ ∀ i u, cs[i]? = some u → w.cell? (a.add i) = some u := by
 have h1 := World.cells?_some h
 refine ⟨h1.2.1, fun i u hu => ?_⟩
 have hi : i < n := by
  have := (List.getElem?_eq_some_iff.1 hu).1
  omega
 rw [h1.2.2 i hi, hu]
theorem opens_slice {P : Program} {t e : TypeId} {α : Type} {d : Kd α} {g : α → Prop} (ht : P.underlying t = some (.slice e)) (hsz : P.cellsOf e = d.sz) (h : Opens P e d g) :
  Opens P t (Kd.slice e d) (fun xs => xs.length ≤ 9223372036854775807 ∧ ∀ x ∈ xs, g x) := by
 intro H enc w fuel cs x hx
 rcases DataW.trod_slice ht hx with ⟨rfl, _⟩ | ⟨a, len, cap, elems, rest, n, rfl, rfl, _, _, hlc, hcap, hel, hget, _, _⟩
 ·exact ⟨[], ⟨none, 0, rfl, Nat.le_refl _, Kd.C_nil d w⟩, by simp, by simp⟩
 ·simp only [maxLen] at hcap
  have each : ∀ i, i < len → ∃ b : α, ∃ c : List Value, c.length = d.sz ∧ d.K w b c ∧ g b ∧ ∀ j u, c[j]? = some u → w.cell? (a.add (i * d.sz + j)) = some u := by
   intro i hi
   have h1 := hget i hi
   obtain ⟨y, hy⟩ : ∃ y, elems[i]? = some y := ⟨_, List.getElem?_eq_getElem (by omega)⟩
   rw [hy] at h1
   obtain ⟨c, hc, ht'⟩ := Option.bind_eq_some_iff.1 h1
   obtain ⟨b, hK, hg⟩ := h H enc w n c y ht'
   obtain ⟨hl, hcell⟩ := cells_each hc
   refine ⟨b, c, hl.trans hsz, hK, hg, fun j u hu => ?_⟩
   have := hcell j u hu
   rw [Deep.add_add, hsz] at this
   exact this
  have mk : ∀ m, m ≤ len → ∃ xs : List α, xs.length = m ∧ (∀ x ∈ xs, g x) ∧ ∀ j p, xs[j]? = some p → ∃ c, c.length = d.sz ∧ d.K w p c ∧ ∀ i u, c[i]? = some u → w.cell? (a.add (j * d.sz + i)) = some u := by
   intro m
   induction m with
   | zero => exact fun _ => ⟨[], rfl, by simp, by simp⟩
   | succ m ih =>
    intro hm
    obtain ⟨xs, hl, hg, hx⟩ := ih (by omega)
    obtain ⟨b, c, hc1, hc2, hc3, hc4⟩ := each m (by omega)
    refine ⟨xs ++ [b], by simp [hl], ?_, ?_⟩
    ·intro x hx'
     rcases List.mem_append.1 hx' with hx' | hx'
     ·exact hg x hx'
     ·rw [List.mem_singleton.1 hx']; exact hc3
    ·intro j p hj
     by_cases hjm : j < m
     ·rw [List.getElem?_append_left (by omega)] at hj
      exact hx j p hj
     ·have hlt := (List.getElem?_eq_some_iff.1 hj).1
      simp only [List.length_append, List.length_cons, List.length_nil] at hlt
      obtain rfl : j = m := by omega
      rw [List.getElem?_append_right (by omega), hl, Nat.sub_self] at hj
      simp only [List.getElem?_cons_zero, Option.some.injEq] at hj
      subst hj
      exact ⟨c, hc1, hc2, hc4⟩
  obtain ⟨ys, hl, hg, hy⟩ := mk len (Nat.le_refl _)
  subst hl
  exact ⟨ys, ⟨some a, cap, rfl, hlc, rfl, by omega, fun _ => ⟨a, rfl, hy⟩⟩, by omega, hg⟩
def offs (L : List (TypeId × Nat)) (i : Nat) : Nat := ((L.take i).map (·.2)).sum
def Sect (P : Program) (L : List (TypeId × Nat)) {α : Type} (d : Kd α) (good : α → Prop) : Prop :=
 ∀ (H : Type) (enc : TypeId × Value → H) (w : World) (n : Nat) (cs : List Value), cs.length = (L.map (·.2)).sum →
  (∀ i p, L[i]? = some p → ∃ y, DataW.trod enc P w 0 (fun _ => true) true n p.1 ((cs.drop (offs L i)).take p.2) = some y) → ∃ a, d.K w a cs ∧ good a
theorem sect_one {P : Program} {t : TypeId} {s : Nat} {α : Type} {d : Kd α} {g : α → Prop} (h : Opens P t d g) : Sect P [(t, s)] d g := by
 intro H enc w n cs hl hf
 obtain ⟨y, hy⟩ := hf 0 _ rfl
 simp only [offs, List.take_zero, List.map_nil, List.sum_nil, List.drop_zero] at hy
 rw [List.take_of_length_le (by simp at hl; omega)] at hy
 exact h H enc w n cs y hy
theorem sect_cons {P : Program} {t : TypeId} {s : Nat} {L : List (TypeId × Nat)} {α β : Type} {d : Kd α} {d' : Kd β} {g : α → Prop} {g' : β → Prop} (h : Opens P t d g) (h' : Sect P L d' g') :
  Sect P ((t, s) :: L) (Kd.pair d d') (fun x => g x.1 ∧ g' x.2) := by
 intro H enc w n cs hl hf
 obtain ⟨y, hy⟩ := hf 0 _ rfl
 simp only [offs, List.take_zero, List.map_nil, List.sum_nil, List.drop_zero] at hy
 obtain ⟨a, ha, hga⟩ := h H enc w n _ y hy
 obtain ⟨b, hb, hgb⟩ := h' H enc w n (cs.drop s) (by simp only [List.map_cons, List.sum_cons] at hl; rw [List.length_drop, hl]; omega) (by
  intro i p hp
  obtain ⟨z, hz⟩ := hf (i + 1) p (by simpa using hp)
  refine ⟨z, ?_⟩
  simp only [offs, List.take_succ_cons, List.map_cons, List.sum_cons] at hz
  rw [List.drop_drop]
  exact hz)
 exact ⟨(a, b), ⟨cs.take s, cs.drop s, (List.take_append_drop s cs).symm, ha, hb⟩, hga, hgb⟩
theorem opens_struct {P : Program} {t : TypeId} {fs : Array Field} {α β : Type} {d : Kd α} {g : α → Prop} (f : β → α) (k : α → β) (hk : ∀ x, f (k x) = x) (L : List (TypeId × Nat))
  (ht : P.underlying t = some (.struct fs)) (hL : L = fs.toList.map (fun f => (f.type, P.cellsOf f.type))) (ho : fs.toList.map (·.offset) = (List.range L.length).map (offs L)) (hc : P.cellsOf t = (L.map (·.2)).sum)
  (h : Sect P L d g) : Opens P t (Kd.iso d f) (fun x => g (f x)) := by
 intro H enc w fuel cs x hx
 obtain ⟨xs, n, rfl, rfl, hl, hxl, hf⟩ := DataW.trod_struct ht hx
 obtain ⟨a, ha, hg⟩ := h H enc w n cs (hl.trans hc) (by
  intro i p hp
  have hi : i < fs.size := by
   have := (List.getElem?_eq_some_iff.1 hp).1
   rw [hL] at this
   simpa using this
  have hfi : fs[i]? = some fs[i] := Array.getElem?_eq_getElem hi
  have h1 := hf i fs[i] hfi
  obtain ⟨y, hy⟩ : ∃ y, xs[i]? = some y := ⟨_, List.getElem?_eq_getElem (by omega)⟩
  rw [hy] at h1
  refine ⟨y, ?_⟩
  have hp' : p = (fs[i].type, P.cellsOf fs[i].type) := by
   rw [hL] at hp
   simp only [List.getElem?_map, Array.getElem?_toList, hfi, Option.map_some, Option.some.injEq] at hp
   exact hp.symm
  have hoi : fs[i].offset = offs L i := by
   have h2 : (fs.toList.map (·.offset))[i]? = ((List.range L.length).map (offs L))[i]? := by rw [ho]
   have hLl : L.length = fs.size := by rw [hL]; simp
   simp only [List.getElem?_map, Array.getElem?_toList, hfi, Option.map_some, List.getElem?_range (show i < L.length by omega)] at h2
   exact Option.some.inj h2
  rw [hp', ← hoi]
  exact h1)
 refine ⟨k a, ?_, ?_⟩
 ·show d.K w (f (k a)) cs
  rw [hk]; exact ha
 ·show g (f (k a))
  rw [hk]; exact hg
theorem arg_slice {P : Program} {W : World} {H : Type} {enc : TypeId × Value → H} {t e : TypeId} {α : Type} {d : Kd α} {g : List α → Prop} {v : Value} {x : DataW H} {p : List MemPlace} (h : Opens P t (Kd.slice e d) g)
  (hs : ∃ a len cap, v = .slice a len cap) (hv : DataW.Trod enc P W 0 (fun _ => true) true t v x p) : ∃ A c xs, v = .slice A xs.length c ∧ xs.length ≤ c ∧ Kd.C d W A xs.length xs ∧ g xs := by
 obtain ⟨a, len, cap, rfl⟩ := hs
 obtain ⟨fuel, hf⟩ := hv
 obtain ⟨xs, ⟨A, c, he, hl, hc⟩, hg⟩ := h H enc W fuel _ _ hf
 simp [Value.cells] at he
 obtain ⟨rfl, rfl, rfl⟩ := he
 exact ⟨_, _, xs, rfl, hl, hc, hg⟩
end Go.Proofs.Ytdbhelhoaciodaa.Open
set_option linter.unusedVariables false
namespace Go.Proofs.Ytdbhelhoaciodaa.X
open Go.RowKit Go.Proofs.YtdbhelhoaciodaaW.PrintWords Go.Proofs.Ytdbhelhoaciodaa.Open
theorem op3 : Opens Try.prog 3 (Kd.int .i64) (fun n => (Lit.int .i64 n).wf = true) := opens_int Try.underlying3
def good85 (x : S85) : Prop := (Lit.int .i64 x.f0).wf = true ∧ (Lit.int .i64 x.f1).wf = true ∧ (Lit.int .i64 x.f2).wf = true
theorem op85 : Opens Try.prog 85 k85 good85 :=
 opens_struct (fun x : S85 => (x.f0, x.f1, x.f2)) (fun p => ⟨p.1, p.2.1, p.2.2⟩) (fun _ => rfl) [(3, 1), (3, 1), (3, 1)] Try.underlying85 (by kernel_rfl) (by decide) (by kernel_rfl) (sect_cons op3 (sect_cons op3 (sect_one op3)))
theorem op22 : Opens Try.prog 22 (Kd.slice 85 k85) (fun xs => (xs.length ≤ 9223372036854775807 ∧ ∀ y ∈ xs, good85 y)) := opens_slice Try.underlying22 (by kernel_rfl) op85
theorem op26 : Opens Try.prog 26 (Kd.slice 3 (Kd.int .i64)) (fun xs => (xs.length ≤ 9223372036854775807 ∧ ∀ y ∈ xs, (Lit.int .i64 y).wf = true)) := opens_slice Try.underlying26 (by kernel_rfl) op3
def good78 (x : S78) : Prop := (Lit.int .i64 x.f0).wf = true ∧ (x.f1.length ≤ 9223372036854775807 ∧ ∀ y ∈ x.f1, (Lit.int .i64 y).wf = true)
theorem op78 : Opens Try.prog 78 k78 good78 :=
 opens_struct (fun x : S78 => (x.f0, x.f1)) (fun p => ⟨p.1, p.2⟩) (fun _ => rfl) [(3, 1), (26, 1)] Try.underlying78 (by kernel_rfl) (by decide) (by kernel_rfl) (sect_cons op3 (sect_one op26))
theorem op23 : Opens Try.prog 23 (Kd.slice 78 k78) (fun xs => (xs.length ≤ 9223372036854775807 ∧ ∀ y ∈ xs, good78 y)) := opens_slice Try.underlying23 (by kernel_rfl) op78
end Go.Proofs.Ytdbhelhoaciodaa.X
namespace Go.Proofs.Ytdbhelhoaciodaa.X
open Go.RowKit Go.Proofs.YtdbhelhoaciodaaW.PrintWords
def PureFnExactMissingNumbers : Prop := ∀ (a0 : List (S85)) (a1 : List (S78)), (a0.length ≤ 9223372036854775807 ∧ ∀ y ∈ a0, good85 y) → (a1.length ≤ 9223372036854775807 ∧ ∀ y ∈ a1, good78 y) → ∃ k, laws_FnExactMissingNumbers.f k a0 a1 = some true
end Go.Proofs.Ytdbhelhoaciodaa.X
namespace Go.Proofs.Ytdbhelhoaciodaa.X
open Go.RowKit Go.Proofs.YtdbhelhoaciodaaW.PrintWords Go.Proofs.YtdbhelhoaciodaaW.PrintLast Go.Proofs.YtdbhelhoaciodaaW.PrintMore
attribute [local go_sem] max2_int min2_int max_two min_two max_three min_three max_four min_four
set_option linter.unusedVariables false
set_option linter.unusedSimpArgs false
attribute [-simp] ByteArray.size_append ByteArray.size_extract
attribute [-go_sem] ByteArray.size_append'
/-! ### impl_isCapacity: function 71 -/
def impl_isCapacity.f (a0 : Int) : Option (Bool) := (impl_within.f a0 1 10000).bind fun t101 => (some t101)
set_option maxHeartbeats 8000000 in
set_option maxRecDepth 100000 in
theorem impl_isCapacity.calls (a0 : Int) (r : Bool) (w : World) (h : impl_isCapacity.f a0 = some r) :
  Calls Try.prog 71 #[.int .i64 a0] w fun e w' => e = .returned (.bool r) ∧ Drawn0 w w' := by
 (unfold impl_isCapacity.f at h); (have H := h); clear h; (replace H := obS H); (obtain ⟨t101, A2, H⟩ := H); (obtain rfl := Option.some.inj H); (go_enter Try.func71, Try.ntmps71); (go_wp2_with (first | ((with_reducible refine gate_callee (f := 88) rfl ?_); refine gL (some 4) Try.func88 #[.int .i64 a0, .int .i64 1, .int .i64 10000] ?_; (with_reducible refine (impl_within.calls a0 1 10000 t101 _ A2.out).mono ?_); rintro e w' ⟨rfl, ⟨nd, rfl⟩⟩; refine ⟨_, rfl, ?_⟩))); go_ret; (exact Q0)
/-! ### impl_mayShare: function 117 -/
def impl_mayShare.f (a0 : Int) (a1 : Int) : Option (Bool) := if ((a0 == 2) != (a1 == 2)) = true then (some false) else (if a0 = 3 then (if a1 = 4 then (some (!true)) else (if a0 = 4 then (some (!(a1 == 3))) else (some (!false)))) else (if a0 = 4 then (some (!(a1 == 3))) else (some (!false))))
set_option maxHeartbeats 8000000 in
set_option maxRecDepth 100000 in
theorem impl_mayShare.calls (a0 : Int) (a1 : Int) (r : Bool) (w : World) (h : impl_mayShare.f a0 a1 = some r) :
  Calls Try.prog 117 #[.int .i64 a0, .int .i64 a1] w fun e w' => e = .returned (.bool r) ∧ Drawn0 w w' := by
 (unfold impl_mayShare.f at h); (have H := h); clear h; (by_cases c3 : ((a0 == 2) != (a1 == 2)) = true); (· (rw [if_pos c3] at H); (have c3b0 : ((a0 == 2) != (a1 == 2)) = true := c3); ((try (have c3b1 : decide ((a0 == 2) = (a1 == 2)) = false := Q109))); ((try (have c3b2 : ((a0 == 2) == (a1 == 2)) = false := Q109))); ((try (have c3b3 : ¬ ((a0 == 2) = (a1 == 2)) := Q109))); clear c3; (obtain rfl := Option.some.inj H); (go_enter Try.func117, Try.ntmps117); (go_wp2); go_ret; (exact Q0))
 ·rw [if_neg c3] at H
  (have c3b0 : ((a0 == 2) != (a1 == 2)) = false := Q109); ((try (have c3b1 : decide ((a0 == 2) = (a1 == 2)) = true := Q109))); ((try (have c3b2 : ((a0 == 2) == (a1 == 2)) = true := Q109))); clear c3; (by_cases c4 : a0 = 3)
  ·rw [if_pos c4] at H
   (have c4b0 : (a0 == 3) = true := beq_iff_eq.mpr c4); (have c4b1 : (a0 != 3) = false := bne_eq_false_iff_eq.mpr c4); clear c4; (by_cases c5 : a1 = 4); (· (rw [if_pos c5] at H); (have c5b0 : (a1 == 4) = true := beq_iff_eq.mpr c5); (have c5b1 : (a1 != 4) = false := bne_eq_false_iff_eq.mpr c5); clear c5; (obtain rfl := Option.some.inj H); (go_enter Try.func117, Try.ntmps117); (go_wp2); go_ret; (exact Q0))
   ·rw [if_neg c5] at H
    (have c5b0 : (a1 == 4) = false := beq_eq_false_iff_ne.mpr c5); (have c5b1 : (a1 != 4) = true := bne_iff_ne.mpr c5); (by_cases c6 : a0 = 4); (· (rw [if_pos c6] at H); (have c6b0 : (a0 == 4) = true := beq_iff_eq.mpr c6); (have c6b1 : (a0 != 4) = false := bne_eq_false_iff_eq.mpr c6); clear c6; (obtain rfl := Option.some.inj H); (go_enter Try.func117, Try.ntmps117); (go_wp2); go_ret; (exact Q0)); (· (rw [if_neg c6] at H); (have c6b0 : (a0 == 4) = false := beq_eq_false_iff_ne.mpr c6); (have c6b1 : (a0 != 4) = true := bne_iff_ne.mpr c6); (obtain rfl := Option.some.inj H); (go_enter Try.func117, Try.ntmps117); (go_wp2); go_ret; (exact Q0))
  ·rw [if_neg c4] at H
   (have c4b0 : (a0 == 3) = false := beq_eq_false_iff_ne.mpr c4); (have c4b1 : (a0 != 3) = true := bne_iff_ne.mpr c4); (by_cases c7 : a0 = 4); (· (rw [if_pos c7] at H); (have c7b0 : (a0 == 4) = true := beq_iff_eq.mpr c7); (have c7b1 : (a0 != 4) = false := bne_eq_false_iff_eq.mpr c7); clear c7; (obtain rfl := Option.some.inj H); (go_enter Try.func117, Try.ntmps117); (go_wp2); go_ret; (exact Q0)); (· (rw [if_neg c7] at H); (have c7b0 : (a0 == 4) = false := beq_eq_false_iff_ne.mpr c7); (have c7b1 : (a0 != 4) = true := bne_iff_ne.mpr c7); (obtain rfl := Option.some.inj H); (go_enter Try.func117, Try.ntmps117); (go_wp2); go_ret; (exact Q0))
/-! ### impl_fits: function 78 -/
def impl_fits.l0 : Nat → List (S83) → Int → Int → Int → List Int → Int → Int → Option (Bool)
 | 0, _, _, _, _, _, _, _ => none
 | k + 1, x0, x2, x3, x9, x17, x18, x19 => if x19 < x18 then (if 0 ≤ x19 then (if x19 < (x17.length : Int) then (if 0 ≤ (rd x17 x19) then (if (rd x17 x19) < (x0.length : Int) then (if 0 ≤ x2 then (if x2 < (x0.length : Int) then ((impl_mayShare.f ((rd_T83 x0 (rd x17 x19)).f1) ((rd_T83 x0 x2).f1)).bind fun t105 => (if t105 = true then (impl_fits.l0 k x0 x2 x3 (wrap64 (x9 + ((rd_T83 x0 (rd x17 x19)).f2))) x17 x18 (wrap64 (x19 + 1))) else (some false))) else (none)) else (none)) else (none)) else (none)) else (none)) else (none)) else (some (decide (x9 ≤ x3)))
def impl_fits.f (k : Nat) (l0 : List (S83)) (l1 : List Int) (a2 : Int) (a3 : Int) : Option (Bool) := if 0 ≤ a2 then (if a2 < (l0.length : Int) then (impl_fits.l0 k l0 a2 a3 ((rd_T83 l0 a2).f2) l1 (l1.length : Int) 0) else (none)) else (none)
set_option maxHeartbeats 8000000 in
set_option maxRecDepth 100000 in
theorem impl_fits.calls (k : Nat) (A0 : Option Addr) (c0 : Nat) (l0 : List (S83)) (A1 : Option Addr) (c1 : Nat) (l1 : List Int) (a2 : Int) (a3 : Int) (r : Bool) (w : World) (hr0 : Kd.C k83 w A0 l0.length l0) (hc0 : l0.length ≤ c0) (hr1 : Kd.C (Kd.int .i64) w A1 l1.length l1) (hc1 : l1.length ≤ c1) (h : impl_fits.f k l0 l1 a2 a3 = some r) :
  Calls Try.prog 78 #[.slice A0 l0.length c0, .slice A1 l1.length c1, .int .i64 a2, .int .i64 a3] w fun e w' => e = .returned (.bool r) ∧ Drawn0 w w' := by
 (have HR0 := Aside0.mk hr0); (have HC0 := Aside0.mk hc0); clear hr0 hc0; (have HR1 := Aside0.mk hr1); (have HC1 := Aside0.mk hc1); clear hr1 hc1; (unfold impl_fits.f at h); (have H := h); clear h; (by_cases c5 : 0 ≤ a2)
 ·rw [if_pos c5] at H
  (have c5b0 := decide_eq_true c5); clear c5; (by_cases c6 : a2 < (l0.length : Int))
  ·rw [if_pos c6] at H
   (have c6b0 := decide_eq_true c6); clear c6; (have H' := Aside0.mk H); clear H; (have p101 : 0 ≤ (a2 : Int) := odt); (have q101 : a2 < (l0.length : Int) := odt); (obtain ⟨ad101, e101, hx101_0, hx101_1, hx101_2⟩ := at_T83 HR0.out a2 p101 q101); (cases e101); (replace p101 := eq_true p101); (replace q101 := eq_true q101); (go_enter Try.func78, Try.ntmps78); (go_wp2); (repeat (go_quiet (fail); try go_wp2)); (go_loopg [9, 19] k (fun kq v9 v19 w' => ∃ (x9_1 : Int) (x19_1 : Int), v9 = .int .i64 x9_1 ∧ v19 = .int .i64 x19_1 ∧ Aside0 (impl_fits.l0 kq l0 a2 a3 x9_1 l1 (l1.length : Int) x19_1 = some r) ∧ Aside0 (kq ≤ k) ∧ Drawn0 w w'))
   case atStart => exact ⟨((rd_T83 l0 a2).f2), (0), Q16, Q16, H', ⟨Nat.le_refl _⟩, Q82⟩
   case round =>
    (clear H'); (try clear c1); (try clear p1); (try clear q1); (try clear hx1); (try clear p2); (try clear c5); (try clear c5b0); (try clear c6); (try clear c6b0); (try clear hx101_0); (try clear hx101_1); (try clear hx101_2); (try clear p101); (try clear q101); (obtain ⟨x9_1, x19_1, rfl, rfl, HA, HK1, ⟨m1, rfl⟩⟩ := hrel)
    cases gk with
    | zero => exact absurd HA.out (by simp [impl_fits.l0])
    | succ k1 =>
     (have H := HA.out); clear HA; (simp only [impl_fits.l0] at H); (by_cases c7 : x19_1 < (l1.length : Int))
     ·rw [if_pos c7] at H
      (have c7b0 := decide_eq_true c7); clear c7; (by_cases c8 : 0 ≤ x19_1)
      ·rw [if_pos c8] at H
       (have c8b0 := decide_eq_true c8); clear c8; (by_cases c9 : x19_1 < (l1.length : Int))
       ·rw [if_pos c9] at H
        (have c9b0 := decide_eq_true c9); clear c9; (by_cases c10 : 0 ≤ (rd l1 x19_1))
        ·rw [if_pos c10] at H
         (have c10b0 := decide_eq_true c10); clear c10; (by_cases c11 : (rd l1 x19_1) < (l0.length : Int))
         ·rw [if_pos c11] at H
          (have c11b0 := decide_eq_true c11); clear c11; (by_cases c12 : 0 ≤ a2)
          ·rw [if_pos c12] at H
           (have c12b0 := decide_eq_true c12); clear c12; (by_cases c13 : a2 < (l0.length : Int))
           ·rw [if_pos c13] at H
            (have c13b0 := decide_eq_true c13); clear c13; (replace H := obS H); (obtain ⟨t105, A14, H⟩ := H); (by_cases c15 : t105 = true)
            ·subst c15
             (rw [if_pos rfl] at H); (have H' := Aside0.mk H); clear H; (have p102 : 0 ≤ (x19_1 : Int) := odt); (have q102 : x19_1 < (l1.length : Int) := odt); (obtain ⟨ad102, e102, hx102_0⟩ := Kd.at_int HR1.out x19_1 p102 q102); (cases e102); (replace p102 := eq_true p102); (replace q102 := eq_true q102); (have p103 : 0 ≤ ((rd l1 x19_1) : Int) := odt); (have q103 : (rd l1 x19_1) < (l0.length : Int) := odt); (obtain ⟨ad103, e103, hx103_0, hx103_1, hx103_2⟩ := at_T83 HR0.out (rd l1 x19_1) p103 q103); (obtain rfl : ad101 = ad103 := Q110); (replace p103 := eq_true p103); (replace q103 := eq_true q103); (have p104 : 0 ≤ (a2 : Int) := odt); (have q104 : a2 < (l0.length : Int) := odt); (obtain ⟨ad104, e104, hx104_0, hx104_1, hx104_2⟩ := at_T83 HR0.out a2 p104 q104); (obtain rfl : ad101 = ad104 := Q85); (replace p104 := eq_true p104); (replace q104 := eq_true q104); (go_wp2_with (first | (go_at_call 117; (with_reducible refine (impl_mayShare.calls ((rd_T83 l0 (rd l1 x19_1)).f1) ((rd_T83 l0 a2).f1) true _ A14.out).mono ?_); rintro e w' ⟨rfl, ⟨nd, rfl⟩⟩; (try first | exact Q2 | exact Q3); have p106 : 0 ≤ ((rd l1 x19_1) : Int) := odt; have q106 : (rd l1 x19_1) < (l0.length : Int) := odt; obtain ⟨ad106, e106, hx106_0, hx106_1, hx106_2⟩ := at_T83 HR0.out (rd l1 x19_1) p106 q106; obtain rfl : ad101 = ad106 := Q4; replace p106 := eq_true p106; replace q106 := eq_true q106))); (repeat (go_quiet (first | (go_at_call 117; (with_reducible refine (impl_mayShare.calls ((rd_T83 l0 (rd l1 x19_1)).f1) ((rd_T83 l0 a2).f1) true _ A14.out).mono ?_); rintro e w' ⟨rfl, ⟨nd, rfl⟩⟩; (try first | exact Q2 | exact Q3); have p106 : 0 ≤ ((rd l1 x19_1) : Int) := odt; have q106 : (rd l1 x19_1) < (l0.length : Int) := odt; obtain ⟨ad106, e106, hx106_0, hx106_1, hx106_2⟩ := at_T83 HR0.out (rd l1 x19_1) p106 q106; obtain rfl : ad101 = ad106 := Q4; replace p106 := eq_true p106; replace q106 := eq_true q106)); try go_wp2_with (first | (go_at_call 117; (with_reducible refine (impl_mayShare.calls ((rd_T83 l0 (rd l1 x19_1)).f1) ((rd_T83 l0 a2).f1) true _ A14.out).mono ?_); rintro e w' ⟨rfl, ⟨nd, rfl⟩⟩; (try first | exact Q2 | exact Q3); have p106 : 0 ≤ ((rd l1 x19_1) : Int) := odt; have q106 : (rd l1 x19_1) < (l0.length : Int) := odt; obtain ⟨ad106, e106, hx106_0, hx106_1, hx106_2⟩ := at_T83 HR0.out (rd l1 x19_1) p106 q106; obtain rfl : ad101 = ad106 := Q4; replace p106 := eq_true p106; replace q106 := eq_true q106)))); go_roundg k1
             case measure => have := HK1.out; omega
             case rel => exact ⟨(wrap64 (x9_1 + ((rd_T83 l0 (rd l1 x19_1)).f2))), (wrap64 (x19_1 + 1)), Q16, Q16, H', ⟨Q20⟩, Q82⟩
            ·replace c15 := Bool.eq_false_iff.mpr c15
             subst c15; (rw [if_neg (show ¬ (false = true) by decide)] at H); (obtain rfl := Option.some.inj H); (have p102 : 0 ≤ (x19_1 : Int) := odt); (have q102 : x19_1 < (l1.length : Int) := odt); (obtain ⟨ad102, e102, hx102_0⟩ := Kd.at_int HR1.out x19_1 p102 q102); (cases e102); (replace p102 := eq_true p102); (replace q102 := eq_true q102); (have p103 : 0 ≤ ((rd l1 x19_1) : Int) := odt); (have q103 : (rd l1 x19_1) < (l0.length : Int) := odt); (obtain ⟨ad103, e103, hx103_0, hx103_1, hx103_2⟩ := at_T83 HR0.out (rd l1 x19_1) p103 q103); (obtain rfl : ad101 = ad103 := Q110); (replace p103 := eq_true p103); (replace q103 := eq_true q103); (have p104 : 0 ≤ (a2 : Int) := odt); (have q104 : a2 < (l0.length : Int) := odt); (obtain ⟨ad104, e104, hx104_0, hx104_1, hx104_2⟩ := at_T83 HR0.out a2 p104 q104); (obtain rfl : ad101 = ad104 := Q85); (replace p104 := eq_true p104); (replace q104 := eq_true q104); (go_wp2_with (first | (go_at_call 117; (with_reducible refine (impl_mayShare.calls ((rd_T83 l0 (rd l1 x19_1)).f1) ((rd_T83 l0 a2).f1) false _ A14.out).mono ?_); rintro e w' ⟨rfl, ⟨nd, rfl⟩⟩; (try first | exact Q2 | exact Q3)))); (repeat (go_quiet (first | (go_at_call 117; (with_reducible refine (impl_mayShare.calls ((rd_T83 l0 (rd l1 x19_1)).f1) ((rd_T83 l0 a2).f1) false _ A14.out).mono ?_); rintro e w' ⟨rfl, ⟨nd, rfl⟩⟩; (try first | exact Q2 | exact Q3))); try go_wp2_with (first | (go_at_call 117; (with_reducible refine (impl_mayShare.calls ((rd_T83 l0 (rd l1 x19_1)).f1) ((rd_T83 l0 a2).f1) false _ A14.out).mono ?_); rintro e w' ⟨rfl, ⟨nd, rfl⟩⟩; (try first | exact Q2 | exact Q3))))); go_ret; (exact Q0)
           ·rw [if_neg c13] at H
            exact Q11
          ·rw [if_neg c12] at H
           exact Q11
         ·rw [if_neg c11] at H
          exact Q11
        ·rw [if_neg c10] at H
         exact Q11
       ·rw [if_neg c9] at H
        exact Q11
      ·rw [if_neg c8] at H
       exact Q11
     ·rw [if_neg c7] at H
      (have c7b0 := decide_eq_false c7); clear c7; (obtain rfl := Option.some.inj H); (go_wp2); (repeat (go_quiet (fail); try go_wp2)); go_ret; (exact Q0)
  ·rw [if_neg c6] at H
   exact Q11
 ·rw [if_neg c5] at H
  exact Q11
/-! ### spec_l26Share: function 112 -/
def spec_l26Share.f (a0 : Int) (a1 : Int) : Option (Bool) := if ((a0 == 2) != (a1 == 2)) = true then (some false) else (if a0 = 3 then (if a1 = 4 then (some (!true)) else (if a0 = 4 then (some (!(a1 == 3))) else (some (!false)))) else (if a0 = 4 then (some (!(a1 == 3))) else (some (!false))))
set_option maxHeartbeats 8000000 in
set_option maxRecDepth 100000 in
theorem spec_l26Share.calls (a0 : Int) (a1 : Int) (r : Bool) (w : World) (h : spec_l26Share.f a0 a1 = some r) :
  Calls Try.prog 112 #[.int .i64 a0, .int .i64 a1] w fun e w' => e = .returned (.bool r) ∧ Drawn0 w w' := by
 (unfold spec_l26Share.f at h); (have H := h); clear h; (by_cases c3 : ((a0 == 2) != (a1 == 2)) = true); (· (rw [if_pos c3] at H); (have c3b0 : ((a0 == 2) != (a1 == 2)) = true := c3); ((try (have c3b1 : decide ((a0 == 2) = (a1 == 2)) = false := Q109))); ((try (have c3b2 : ((a0 == 2) == (a1 == 2)) = false := Q109))); ((try (have c3b3 : ¬ ((a0 == 2) = (a1 == 2)) := Q109))); clear c3; (obtain rfl := Option.some.inj H); (go_enter Try.func112, Try.ntmps112); (go_wp2); go_ret; (exact Q0))
 ·rw [if_neg c3] at H
  (have c3b0 : ((a0 == 2) != (a1 == 2)) = false := Q109); ((try (have c3b1 : decide ((a0 == 2) = (a1 == 2)) = true := Q109))); ((try (have c3b2 : ((a0 == 2) == (a1 == 2)) = true := Q109))); clear c3; (by_cases c4 : a0 = 3)
  ·rw [if_pos c4] at H
   (have c4b0 : (a0 == 3) = true := beq_iff_eq.mpr c4); (have c4b1 : (a0 != 3) = false := bne_eq_false_iff_eq.mpr c4); clear c4; (by_cases c5 : a1 = 4); (· (rw [if_pos c5] at H); (have c5b0 : (a1 == 4) = true := beq_iff_eq.mpr c5); (have c5b1 : (a1 != 4) = false := bne_eq_false_iff_eq.mpr c5); clear c5; (obtain rfl := Option.some.inj H); (go_enter Try.func112, Try.ntmps112); (go_wp2); go_ret; (exact Q0))
   ·rw [if_neg c5] at H
    (have c5b0 : (a1 == 4) = false := beq_eq_false_iff_ne.mpr c5); (have c5b1 : (a1 != 4) = true := bne_iff_ne.mpr c5); (by_cases c6 : a0 = 4); (· (rw [if_pos c6] at H); (have c6b0 : (a0 == 4) = true := beq_iff_eq.mpr c6); (have c6b1 : (a0 != 4) = false := bne_eq_false_iff_eq.mpr c6); clear c6; (obtain rfl := Option.some.inj H); (go_enter Try.func112, Try.ntmps112); (go_wp2); go_ret; (exact Q0)); (· (rw [if_neg c6] at H); (have c6b0 : (a0 == 4) = false := beq_eq_false_iff_ne.mpr c6); (have c6b1 : (a0 != 4) = true := bne_iff_ne.mpr c6); (obtain rfl := Option.some.inj H); (go_enter Try.func112, Try.ntmps112); (go_wp2); go_ret; (exact Q0))
  ·rw [if_neg c4] at H
   (have c4b0 : (a0 == 3) = false := beq_eq_false_iff_ne.mpr c4); (have c4b1 : (a0 != 3) = true := bne_iff_ne.mpr c4); (by_cases c7 : a0 = 4); (· (rw [if_pos c7] at H); (have c7b0 : (a0 == 4) = true := beq_iff_eq.mpr c7); (have c7b1 : (a0 != 4) = false := bne_eq_false_iff_eq.mpr c7); clear c7; (obtain rfl := Option.some.inj H); (go_enter Try.func112, Try.ntmps112); (go_wp2); go_ret; (exact Q0)); (· (rw [if_neg c7] at H); (have c7b0 : (a0 == 4) = false := beq_eq_false_iff_ne.mpr c7); (have c7b1 : (a0 != 4) = true := bne_iff_ne.mpr c7); (obtain rfl := Option.some.inj H); (go_enter Try.func112, Try.ntmps112); (go_wp2); go_ret; (exact Q0))
/-! ### spec_l26Fits: function 69 -/
mutual
def spec_l26Fits.l0 : Nat → List (S83) → List Int → Int → Int → Int → Option (Bool)
 | 0, _, _, _, _, _ => none
 | k + 1, x0, x1, x2, x7, x8 => if x8 < (x1.length : Int) then (if 0 ≤ x8 then ((spec_l26Find.f k x0 (rd x1 x8)).bind fun t102 => (if 0 ≤ t102 then (if t102 < (x0.length : Int) then (spec_l26Fits.l1 k x0 x1 x2 (wrap64 (x7 + ((rd_T83 x0 t102).f2))) x8 0 ((rd_T83 x0 t102).f0) ((rd_T83 x0 t102).f1) ((rd_T83 x0 t102).f2)) else (none)) else (none))) else (none)) else (some (decide (x7 ≤ x2)))
def spec_l26Fits.l1 : Nat → List (S83) → List Int → Int → Int → Int → Int → Int → Int → Int → Option (Bool)
 | 0, _, _, _, _, _, _, _, _, _ => none
 | k + 1, x0, x1, x2, x7, x8, x10, x105000, x105001, x105002 => if x10 < x8 then (if 0 ≤ x10 then (if x10 < (x1.length : Int) then ((spec_l26Find.f k x0 (rd x1 x10)).bind fun t106 => (if 0 ≤ t106 then (if t106 < (x0.length : Int) then ((spec_l26Share.f x105001 ((rd_T83 x0 t106).f1)).bind fun t108 => (if t108 = true then (spec_l26Fits.l1 k x0 x1 x2 x7 x8 (wrap64 (x10 + 1)) x105000 x105001 x105002) else (some false))) else (none)) else (none))) else (none)) else (none)) else (spec_l26Fits.l0 k x0 x1 x2 x7 (wrap64 (x8 + 1)))
end
def spec_l26Fits.f (k : Nat) (l0 : List (S83)) (l1 : List Int) (a2 : Int) : Option (Bool) := spec_l26Fits.l0 k l0 l1 a2 0 0
set_option maxHeartbeats 8000000 in
set_option maxRecDepth 100000 in
theorem spec_l26Fits.calls (k : Nat) (A0 : Option Addr) (c0 : Nat) (l0 : List (S83)) (A1 : Option Addr) (c1 : Nat) (l1 : List Int) (a2 : Int) (r : Bool) (w : World) (hr0 : Kd.C k83 w A0 l0.length l0) (hc0 : l0.length ≤ c0) (hr1 : Kd.C (Kd.int .i64) w A1 l1.length l1) (hc1 : l1.length ≤ c1) (h : spec_l26Fits.f k l0 l1 a2 = some r) :
  Calls Try.prog 69 #[.slice A0 l0.length c0, .slice A1 l1.length c1, .int .i64 a2] w fun e w' => e = .returned (.bool r) ∧ Below w.heap.size w w' := by
 (have hu83 := Try.underlying83); (have HR0 := Aside0.mk hr0); (have HC0 := Aside0.mk hc0); clear hr0 hc0; (have HR1 := Aside0.mk hr1); (have HC1 := Aside0.mk hc1); clear hr1 hc1; (have HB := Aside0.mk (Below.refl w.heap.size w)); (unfold spec_l26Fits.f at h); (have H := h); clear h; (have H' := Aside0.mk H); clear H; (go_enter Try.func69, Try.ntmps69); (go_wp2); (repeat (go_quiet (fail); try go_wp2)); (go_loopg [7, 8] k (fun kq v7 v8 w' => ∃ (x7_1 : Int) (x8_1 : Int), v7 = .int .i64 x7_1 ∧ v8 = .int .i64 x8_1 ∧ Aside0 (spec_l26Fits.l0 kq l0 l1 a2 x7_1 x8_1 = some r) ∧ Aside0 (kq ≤ k) ∧ Aside0 (Below w.heap.size w w')))
 case atStart => exact ⟨(0), (0), Q16, Q16, H', ⟨Nat.le_refl _⟩, ⟨eI HB⟩⟩
 case round =>
  (clear H'); (try clear c1); (try clear p2); (obtain ⟨x7_1, x8_1, rfl, rfl, HA, HK1, HB⟩ := hrel)
  cases gk with
  | zero => exact absurd HA.out (by simp [spec_l26Fits.l0])
  | succ k1 =>
   (have H := HA.out); clear HA; (simp only [spec_l26Fits.l0] at H); (by_cases c4 : x8_1 < (l1.length : Int))
   ·rw [if_pos c4] at H
    (have c4b0 := decide_eq_true c4); clear c4; (by_cases c5 : 0 ≤ x8_1)
    ·rw [if_pos c5] at H
     (have c5b0 := decide_eq_true c5); clear c5; (replace H := obS H); (obtain ⟨t102, A6, H⟩ := H); (by_cases c7 : 0 ≤ t102)
     ·rw [if_pos c7] at H
      (have c7b0 := decide_eq_true c7); clear c7; (by_cases c8 : t102 < (l0.length : Int))
      ·rw [if_pos c8] at H
       (have c8b0 := decide_eq_true c8); clear c8; (have H' := Aside0.mk H); clear H; (have p101 : 0 ≤ (x8_1 : Int) := odt); (have q101 : x8_1 < (l1.length : Int) := odt); (obtain ⟨ad101, e101, hx101_0⟩ := Kd.at_int HR1.out x8_1 p101 q101); (cases e101); (replace hx101_0 := hcI HB hx101_0); (replace p101 := eq_true p101); (replace q101 := eq_true q101); (go_wp2_with (first | (go_at_call 46; (with_reducible refine (spec_l26Find.calls k1 _ _ l0 (rd l1 x8_1) t102 _ ?side1 ?side2 A6.out).mono ?_); (case side1 => exact Q60); (case side2 => exact HC0.out); rintro e w' ⟨rfl, ⟨nd, rfl⟩⟩; (try first | exact Q2 | exact Q3); have p103 : 0 ≤ (t102 : Int) := odt; have q103 : t102 < (l0.length : Int) := odt; obtain ⟨ad103, e103, hx103_0, hx103_1, hx103_2⟩ := at_T83 HR0.out t102 p103 q103; cases e103; replace hx103_0 := hcI HB hx103_0; replace hx103_1 := hcI HB hx103_1; replace hx103_2 := hcI HB hx103_2; replace p103 := eq_true p103; replace q103 := eq_true q103) | ((with_reducible refine gate_dst (N := 9) rfl ?_); refine box_event ?hg (N := 9) ?hd (cs := #[.int .i64 0, .int .i64 0, .int .i64 0]) (t := 83) ?hr ?_; (case hd => rfl); (case hg => rfl); (case hr => first | (go_simp; done) | (go_simp; rfl)); intro gb104 hg w9 hbox hb; have hB_ := zI hb HB; have n0_ := Aside0.mk (below_step hB_ hb); have n1_ := Aside0.mk (hbox); have n2_ := Aside0.mk (bx0 hg hB_); have n3_ := n2_; clear HB; have HB := n0_; have BK104 := n1_; have GW104 := n2_; have GE104 := n3_; clear n0_ n1_ n2_ n3_ hB_ hb hbox hg; have hcz10_0 := cz BK104.out 0; have hcz10_1 := cz BK104.out 1; have hcz10_2 := cz BK104.out 2; have hfz10_0 := blk_frozen BK104.out 0; have hfz10_1 := blk_frozen BK104.out 1; have hfz10_2 := blk_frozen BK104.out 2)))
       (repeat (go_quiet (first | (go_at_call 46; (with_reducible refine (spec_l26Find.calls k1 _ _ l0 (rd l1 x8_1) t102 _ ?side1 ?side2 A6.out).mono ?_); (case side1 => exact Q60); (case side2 => exact HC0.out); rintro e w' ⟨rfl, ⟨nd, rfl⟩⟩; (try first | exact Q2 | exact Q3); have p103 : 0 ≤ (t102 : Int) := odt; have q103 : t102 < (l0.length : Int) := odt; obtain ⟨ad103, e103, hx103_0, hx103_1, hx103_2⟩ := at_T83 HR0.out t102 p103 q103; cases e103; replace hx103_0 := hcI HB hx103_0; replace hx103_1 := hcI HB hx103_1; replace hx103_2 := hcI HB hx103_2; replace p103 := eq_true p103; replace q103 := eq_true q103) | ((with_reducible refine gate_dst (N := 9) rfl ?_); refine box_event ?hg (N := 9) ?hd (cs := #[.int .i64 0, .int .i64 0, .int .i64 0]) (t := 83) ?hr ?_; (case hd => rfl); (case hg => rfl); (case hr => first | (go_simp; done) | (go_simp; rfl)); intro gb104 hg w9 hbox hb; have hB_ := zI hb HB; have n0_ := Aside0.mk (below_step hB_ hb); have n1_ := Aside0.mk (hbox); have n2_ := Aside0.mk (bx0 hg hB_); have n3_ := n2_; clear HB; have HB := n0_; have BK104 := n1_; have GW104 := n2_; have GE104 := n3_; clear n0_ n1_ n2_ n3_ hB_ hb hbox hg; have hcz10_0 := cz BK104.out 0; have hcz10_1 := cz BK104.out 1; have hcz10_2 := cz BK104.out 2; have hfz10_0 := blk_frozen BK104.out 0; have hfz10_1 := blk_frozen BK104.out 1; have hfz10_2 := blk_frozen BK104.out 2)); try go_wp2_with (first | (go_at_call 46; (with_reducible refine (spec_l26Find.calls k1 _ _ l0 (rd l1 x8_1) t102 _ ?side1 ?side2 A6.out).mono ?_); (case side1 => exact Q60); (case side2 => exact HC0.out); rintro e w' ⟨rfl, ⟨nd, rfl⟩⟩; (try first | exact Q2 | exact Q3); have p103 : 0 ≤ (t102 : Int) := odt; have q103 : t102 < (l0.length : Int) := odt; obtain ⟨ad103, e103, hx103_0, hx103_1, hx103_2⟩ := at_T83 HR0.out t102 p103 q103; cases e103; replace hx103_0 := hcI HB hx103_0; replace hx103_1 := hcI HB hx103_1; replace hx103_2 := hcI HB hx103_2; replace p103 := eq_true p103; replace q103 := eq_true q103) | ((with_reducible refine gate_dst (N := 9) rfl ?_); refine box_event ?hg (N := 9) ?hd (cs := #[.int .i64 0, .int .i64 0, .int .i64 0]) (t := 83) ?hr ?_; (case hd => rfl); (case hg => rfl); (case hr => first | (go_simp; done) | (go_simp; rfl)); intro gb104 hg w9 hbox hb; have hB_ := zI hb HB; have n0_ := Aside0.mk (below_step hB_ hb); have n1_ := Aside0.mk (hbox); have n2_ := Aside0.mk (bx0 hg hB_); have n3_ := n2_; clear HB; have HB := n0_; have BK104 := n1_; have GW104 := n2_; have GE104 := n3_; clear n0_ n1_ n2_ n3_ hB_ hb hbox hg; have hcz10_0 := cz BK104.out 0; have hcz10_1 := cz BK104.out 1; have hcz10_2 := cz BK104.out 2; have hfz10_0 := blk_frozen BK104.out 0; have hfz10_1 := blk_frozen BK104.out 1; have hfz10_2 := blk_frozen BK104.out 2)))); (go_loopg [10] k1 (fun kq v10 w' => ∃ (x10_2 : Int), v10 = .int .i64 x10_2 ∧ Aside0 (spec_l26Fits.l1 kq l0 l1 a2 (wrap64 (x7_1 + ((rd_T83 l0 t102).f2))) x8_1 x10_2 ((rd_T83 l0 t102).f0) ((rd_T83 l0 t102).f1) ((rd_T83 l0 t102).f2) = some r) ∧ Aside0 (kq ≤ k1) ∧ Aside0 (w'.heap[gb104]? = some (.cells #[.int .i64 ((rd_T83 l0 t102).f0), .int .i64 ((rd_T83 l0 t102).f1), .int .i64 ((rd_T83 l0 t102).f2)] 83 (0, 0))) ∧ Aside0 (Below w.heap.size w w')))
       case atStart => exact ⟨(0), Q16, H', ⟨Nat.le_refl _⟩, ⟨by (with_reducible repeat (first | refine kN ?_ _ | refine kD ?_ | refine kA ?_ _)); refine blk_put (cs := #[.int .i64 ((rd_T83 l0 t102).f0), .int .i64 ((rd_T83 l0 t102).f1), .int .i64 0]) ?_ 2 _ rfl; (with_reducible repeat (first | refine kN ?_ _ | refine kD ?_ | refine kA ?_ _)); refine blk_put (cs := #[.int .i64 ((rd_T83 l0 t102).f0), .int .i64 0, .int .i64 0]) ?_ 1 _ rfl; (with_reducible repeat (first | refine kN ?_ _ | refine kD ?_ | refine kA ?_ _)); refine blk_put (cs := #[.int .i64 0, .int .i64 0, .int .i64 0]) ?_ 0 _ rfl; (with_reducible repeat (first | refine kN ?_ _ | refine kD ?_ | refine kA ?_ _)); exact BK104.out⟩, ⟨by repeat (first | (with_reducible first | exact HB.out | apply bA | apply bN | apply bD | refine below_set ?_ GE104.out) | exact HB.out)⟩⟩
       case round =>
        (clear H'); (try clear c1); (try clear p1); (try clear q1); (try clear hx1); (try clear p2); (try clear c4); (try clear c4b0); (try clear c5); (try clear c5b0); (try clear c6); (try clear p6); (try clear c7); (try clear c7b0); (try clear c8); (try clear c8b0); (try clear p10); (try clear q10); (try clear hx10); (try clear hcz10_0); (try clear hcz10_1); (try clear hcz10_2); (try clear hfz10_0); (try clear hfz10_1); (try clear hfz10_2); (try clear hx101_0); (try clear hx103_0); (try clear hx103_1); (try clear hx103_2); (try clear p101); (try clear p103); (try clear p2); (try clear q101); (try clear q103); (obtain ⟨x10_2, rfl, HA, HK2, BK104, HB⟩ := hrel)
        cases gk with
        | zero => exact absurd HA.out (by simp [spec_l26Fits.l1])
        | succ k2 =>
         (have H := HA.out); clear HA; (simp only [spec_l26Fits.l1] at H); (by_cases c11 : x10_2 < x8_1)
         ·rw [if_pos c11] at H
          (have c11b0 := decide_eq_true c11); clear c11; (by_cases c12 : 0 ≤ x10_2)
          ·rw [if_pos c12] at H
           (have c12b0 := decide_eq_true c12); clear c12; (by_cases c13 : x10_2 < (l1.length : Int))
           ·rw [if_pos c13] at H
            (have c13b0 := decide_eq_true c13); clear c13; (replace H := obS H); (obtain ⟨t106, A14, H⟩ := H); (by_cases c15 : 0 ≤ t106)
            ·rw [if_pos c15] at H
             (have c15b0 := decide_eq_true c15); clear c15; (by_cases c16 : t106 < (l0.length : Int))
             ·rw [if_pos c16] at H
              (have c16b0 := decide_eq_true c16); clear c16; (replace H := obS H); (obtain ⟨t108, A17, H⟩ := H); (by_cases c18 : t108 = true)
              ·subst c18
               (rw [if_pos rfl] at H); (have H' := Aside0.mk H); clear H; (have hcz19_0 := cz BK104.out 0); (have hcz19_1 := cz BK104.out 1); (have hcz19_2 := cz BK104.out 2); (have hfz19_0 := blk_frozen BK104.out 0); (have hfz19_1 := blk_frozen BK104.out 1); (have hfz19_2 := blk_frozen BK104.out 2); (have p105 : 0 ≤ (x10_2 : Int) := odt); (have q105 : x10_2 < (l1.length : Int) := odt); (obtain ⟨ad105, e105, hx105_0⟩ := Kd.at_int HR1.out x10_2 p105 q105); (obtain rfl : ad101 = ad105 := (by injection e105)); (replace hx105_0 := hcI HB hx105_0); (replace p105 := eq_true p105); (replace q105 := eq_true q105); (go_wp2_with (first | (go_at_call 46; (with_reducible refine (spec_l26Find.calls k2 _ _ l0 (rd l1 x10_2) t106 _ ?side1 ?side2 A14.out).mono ?_); (case side1 => exact Q60); (case side2 => exact HC0.out); rintro e w' ⟨rfl, ⟨nd, rfl⟩⟩; (try first | exact Q2 | exact Q3); have p107 : 0 ≤ (t106 : Int) := odt; have q107 : t106 < (l0.length : Int) := odt; obtain ⟨ad107, e107, hx107_0, hx107_1, hx107_2⟩ := at_T83 HR0.out t106 p107 q107; obtain rfl : ad103 = ad107 := Q111; replace hx107_0 := hcI HB hx107_0; replace hx107_1 := hcI HB hx107_1; replace hx107_2 := hcI HB hx107_2; replace p107 := eq_true p107; replace q107 := eq_true q107) | (go_at_call 112; (with_reducible refine (spec_l26Share.calls ((rd_T83 l0 t102).f1) ((rd_T83 l0 t106).f1) true _ A17.out).mono ?_); rintro e w' ⟨rfl, ⟨nd, rfl⟩⟩; (try first | exact Q2 | exact Q3)))); (repeat (go_quiet (first | (go_at_call 46; (with_reducible refine (spec_l26Find.calls k2 _ _ l0 (rd l1 x10_2) t106 _ ?side1 ?side2 A14.out).mono ?_); (case side1 => exact Q60); (case side2 => exact HC0.out); rintro e w' ⟨rfl, ⟨nd, rfl⟩⟩; (try first | exact Q2 | exact Q3); have p107 : 0 ≤ (t106 : Int) := odt; have q107 : t106 < (l0.length : Int) := odt; obtain ⟨ad107, e107, hx107_0, hx107_1, hx107_2⟩ := at_T83 HR0.out t106 p107 q107; obtain rfl : ad103 = ad107 := Q111; replace hx107_0 := hcI HB hx107_0; replace hx107_1 := hcI HB hx107_1; replace hx107_2 := hcI HB hx107_2; replace p107 := eq_true p107; replace q107 := eq_true q107) | (go_at_call 112; (with_reducible refine (spec_l26Share.calls ((rd_T83 l0 t102).f1) ((rd_T83 l0 t106).f1) true _ A17.out).mono ?_); rintro e w' ⟨rfl, ⟨nd, rfl⟩⟩; (try first | exact Q2 | exact Q3))); try go_wp2_with (first | (go_at_call 46; (with_reducible refine (spec_l26Find.calls k2 _ _ l0 (rd l1 x10_2) t106 _ ?side1 ?side2 A14.out).mono ?_); (case side1 => exact Q60); (case side2 => exact HC0.out); rintro e w' ⟨rfl, ⟨nd, rfl⟩⟩; (try first | exact Q2 | exact Q3); have p107 : 0 ≤ (t106 : Int) := odt; have q107 : t106 < (l0.length : Int) := odt; obtain ⟨ad107, e107, hx107_0, hx107_1, hx107_2⟩ := at_T83 HR0.out t106 p107 q107; obtain rfl : ad103 = ad107 := Q111; replace hx107_0 := hcI HB hx107_0; replace hx107_1 := hcI HB hx107_1; replace hx107_2 := hcI HB hx107_2; replace p107 := eq_true p107; replace q107 := eq_true q107) | (go_at_call 112; (with_reducible refine (spec_l26Share.calls ((rd_T83 l0 t102).f1) ((rd_T83 l0 t106).f1) true _ A17.out).mono ?_); rintro e w' ⟨rfl, ⟨nd, rfl⟩⟩; (try first | exact Q2 | exact Q3))))); go_roundg k2
               case measure => have := HK1.out; have := HK2.out; omega
               case rel => exact ⟨(wrap64 (x10_2 + 1)), Q16, H', ⟨Q86⟩, ⟨kI BK104⟩, ⟨eI HB⟩⟩
              ·replace c18 := Bool.eq_false_iff.mpr c18
               subst c18; (rw [if_neg (show ¬ (false = true) by decide)] at H); (obtain rfl := Option.some.inj H); (have hcz20_0 := cz BK104.out 0); (have hcz20_1 := cz BK104.out 1); (have hcz20_2 := cz BK104.out 2); (have hfz20_0 := blk_frozen BK104.out 0); (have hfz20_1 := blk_frozen BK104.out 1); (have hfz20_2 := blk_frozen BK104.out 2); (have p105 : 0 ≤ (x10_2 : Int) := odt); (have q105 : x10_2 < (l1.length : Int) := odt); (obtain ⟨ad105, e105, hx105_0⟩ := Kd.at_int HR1.out x10_2 p105 q105); (obtain rfl : ad101 = ad105 := (by injection e105)); (replace hx105_0 := hcI HB hx105_0); (replace p105 := eq_true p105); (replace q105 := eq_true q105); (go_wp2_with (first | (go_at_call 46; (with_reducible refine (spec_l26Find.calls k2 _ _ l0 (rd l1 x10_2) t106 _ ?side1 ?side2 A14.out).mono ?_); (case side1 => exact Q60); (case side2 => exact HC0.out); rintro e w' ⟨rfl, ⟨nd, rfl⟩⟩; (try first | exact Q2 | exact Q3); have p107 : 0 ≤ (t106 : Int) := odt; have q107 : t106 < (l0.length : Int) := odt; obtain ⟨ad107, e107, hx107_0, hx107_1, hx107_2⟩ := at_T83 HR0.out t106 p107 q107; obtain rfl : ad103 = ad107 := Q111; replace hx107_0 := hcI HB hx107_0; replace hx107_1 := hcI HB hx107_1; replace hx107_2 := hcI HB hx107_2; replace p107 := eq_true p107; replace q107 := eq_true q107) | (go_at_call 112; (with_reducible refine (spec_l26Share.calls ((rd_T83 l0 t102).f1) ((rd_T83 l0 t106).f1) false _ A17.out).mono ?_); rintro e w' ⟨rfl, ⟨nd, rfl⟩⟩; (try first | exact Q2 | exact Q3)))); (repeat (go_quiet (first | (go_at_call 46; (with_reducible refine (spec_l26Find.calls k2 _ _ l0 (rd l1 x10_2) t106 _ ?side1 ?side2 A14.out).mono ?_); (case side1 => exact Q60); (case side2 => exact HC0.out); rintro e w' ⟨rfl, ⟨nd, rfl⟩⟩; (try first | exact Q2 | exact Q3); have p107 : 0 ≤ (t106 : Int) := odt; have q107 : t106 < (l0.length : Int) := odt; obtain ⟨ad107, e107, hx107_0, hx107_1, hx107_2⟩ := at_T83 HR0.out t106 p107 q107; obtain rfl : ad103 = ad107 := Q111; replace hx107_0 := hcI HB hx107_0; replace hx107_1 := hcI HB hx107_1; replace hx107_2 := hcI HB hx107_2; replace p107 := eq_true p107; replace q107 := eq_true q107) | (go_at_call 112; (with_reducible refine (spec_l26Share.calls ((rd_T83 l0 t102).f1) ((rd_T83 l0 t106).f1) false _ A17.out).mono ?_); rintro e w' ⟨rfl, ⟨nd, rfl⟩⟩; (try first | exact Q2 | exact Q3))); try go_wp2_with (first | (go_at_call 46; (with_reducible refine (spec_l26Find.calls k2 _ _ l0 (rd l1 x10_2) t106 _ ?side1 ?side2 A14.out).mono ?_); (case side1 => exact Q60); (case side2 => exact HC0.out); rintro e w' ⟨rfl, ⟨nd, rfl⟩⟩; (try first | exact Q2 | exact Q3); have p107 : 0 ≤ (t106 : Int) := odt; have q107 : t106 < (l0.length : Int) := odt; obtain ⟨ad107, e107, hx107_0, hx107_1, hx107_2⟩ := at_T83 HR0.out t106 p107 q107; obtain rfl : ad103 = ad107 := Q111; replace hx107_0 := hcI HB hx107_0; replace hx107_1 := hcI HB hx107_1; replace hx107_2 := hcI HB hx107_2; replace p107 := eq_true p107; replace q107 := eq_true q107) | (go_at_call 112; (with_reducible refine (spec_l26Share.calls ((rd_T83 l0 t102).f1) ((rd_T83 l0 t106).f1) false _ A17.out).mono ?_); rintro e w' ⟨rfl, ⟨nd, rfl⟩⟩; (try first | exact Q2 | exact Q3))))); go_ret; (exact Q13)
             ·rw [if_neg c16] at H
              exact Q11
            ·rw [if_neg c15] at H
             exact Q11
           ·rw [if_neg c13] at H
            exact Q11
          ·rw [if_neg c12] at H
           exact Q11
         ·rw [if_neg c11] at H
          (have c11b0 := decide_eq_false c11); clear c11; (have H' := Aside0.mk H); clear H; (go_wp2); (repeat (go_quiet (fail); try go_wp2)); go_roundg k2
          case measure => have := HK1.out; have := HK2.out; omega
          case rel => exact ⟨((wrap64 (x7_1 + ((rd_T83 l0 t102).f2)))), (wrap64 (x8_1 + 1)), Q16, Q16, H', ⟨Q86⟩, ⟨eI HB⟩⟩
      ·rw [if_neg c8] at H
       exact Q11
     ·rw [if_neg c7] at H
      exact Q11
    ·rw [if_neg c5] at H
     exact Q11
   ·rw [if_neg c4] at H
    (have c4b0 := decide_eq_false c4); clear c4; (obtain rfl := Option.some.inj H); (go_wp2); (repeat (go_quiet (fail); try go_wp2)); go_ret; (exact Q13)
/-! ### spec_l1Rising: function 110 -/
def spec_l1Rising.l0 : Nat → List Int → Int → Int → Int → Option (Bool)
 | 0, _, _, _, _ => none
 | k + 1, x0, x1, x2, x7 => if x7 < (x0.length : Int) then (if 0 ≤ x7 then ((spec_l1In.f (rd x0 x7) x1 x2).bind fun t102 => (if t102 = true then (if x7 > 0 then (if 0 ≤ (wrap64 (x7 - 1)) then (if (wrap64 (x7 - 1)) < (x0.length : Int) then (if (rd x0 (wrap64 (x7 - 1))) ≥ (rd x0 x7) then (some false) else (spec_l1Rising.l0 k x0 x1 x2 (wrap64 (x7 + 1)))) else (none)) else (none)) else (spec_l1Rising.l0 k x0 x1 x2 (wrap64 (x7 + 1)))) else (some false))) else (none)) else (some true)
def spec_l1Rising.f (k : Nat) (l0 : List Int) (a1 : Int) (a2 : Int) : Option (Bool) := spec_l1Rising.l0 k l0 a1 a2 0
set_option maxHeartbeats 8000000 in
set_option maxRecDepth 100000 in
theorem spec_l1Rising.calls (k : Nat) (A0 : Option Addr) (c0 : Nat) (l0 : List Int) (a1 : Int) (a2 : Int) (r : Bool) (w : World) (hr0 : Kd.C (Kd.int .i64) w A0 l0.length l0) (hc0 : l0.length ≤ c0) (h : spec_l1Rising.f k l0 a1 a2 = some r) :
  Calls Try.prog 110 #[.slice A0 l0.length c0, .int .i64 a1, .int .i64 a2] w fun e w' => e = .returned (.bool r) ∧ Drawn0 w w' := by
 (have HR0 := Aside0.mk hr0); (have HC0 := Aside0.mk hc0); clear hr0 hc0; (unfold spec_l1Rising.f at h); (have H := h); clear h; (have H' := Aside0.mk H); clear H; (go_enter Try.func110, Try.ntmps110); (go_wp2); (repeat (go_quiet (fail); try go_wp2)); (go_loopg [7] k (fun kq v7 w' => ∃ (x7_1 : Int), v7 = .int .i64 x7_1 ∧ Aside0 (spec_l1Rising.l0 kq l0 a1 a2 x7_1 = some r) ∧ Aside0 (kq ≤ k) ∧ Drawn0 w w'))
 case atStart => exact Q14
 case round =>
  (clear H'); (try clear c1); (try clear p2); (obtain ⟨x7_1, rfl, HA, HK1, ⟨m1, rfl⟩⟩ := hrel)
  cases gk with
  | zero => exact absurd HA.out (by simp [spec_l1Rising.l0])
  | succ k1 =>
   (have H := HA.out); clear HA; (simp only [spec_l1Rising.l0] at H); (by_cases c4 : x7_1 < (l0.length : Int))
   ·rw [if_pos c4] at H
    (have c4b0 := decide_eq_true c4); clear c4; (by_cases c5 : 0 ≤ x7_1)
    ·rw [if_pos c5] at H
     (have c5b0 := decide_eq_true c5); clear c5; (replace H := obS H); (obtain ⟨t102, A6, H⟩ := H); (by_cases c7 : t102 = true)
     ·subst c7
      (rw [if_pos rfl] at H); (by_cases c8 : x7_1 > 0)
      ·rw [if_pos c8] at H
       (have c8b0 : decide (0 < x7_1) = true := decide_eq_true c8); clear c8; (obtain ⟨ji9, hji9⟩ : ∃ j_ : Int, (wrap64 (x7_1 - 1)) = j_ := ⟨_, rfl⟩); (replace H : (if 0 ≤ (ji9) then (if (ji9) < (l0.length : Int) then (if (rd l0 (ji9)) ≥ (rd l0 x7_1) then (some false) else (spec_l1Rising.l0 k1 l0 a1 a2 (wrap64 (x7_1 + 1)))) else (none)) else (none)) = some r := by first | (rw [hji9] at H; exact H) | (simp only [hji9] at H ⊢; exact H)); ((try rw [hji9] at A6)); (have hji9w : (IntKind.i64.wrap (x7_1 - 1)) = ji9 := (i64_w _).trans hji9); (by_cases c10 : 0 ≤ (ji9))
       ·rw [if_pos c10] at H
        (have c10b0 := decide_eq_true c10); clear c10; (by_cases c11 : (ji9) < (l0.length : Int))
        ·rw [if_pos c11] at H
         (have c11b0 := decide_eq_true c11); clear c11; (by_cases c12 : (rd l0 (ji9)) ≥ (rd l0 x7_1))
         ·rw [if_pos c12] at H
          (have c12b0 : decide ((rd l0 x7_1) ≤ (rd l0 (ji9))) = true := decide_eq_true c12); clear c12; (obtain rfl := Option.some.inj H); (have p101 : 0 ≤ (x7_1 : Int) := odt); (have q101 : x7_1 < (l0.length : Int) := odt); (obtain ⟨ad101, e101, hx101_0⟩ := Kd.at_int HR0.out x7_1 p101 q101); (cases e101); (replace p101 := eq_true p101); (replace q101 := eq_true q101); (go_wp2_with (first | (go_at_call 83; (with_reducible refine (spec_l1In.calls (rd l0 x7_1) a1 a2 true _ A6.out).mono ?_); rintro e w' ⟨rfl, ⟨nd, rfl⟩⟩; (try first | exact Q2 | exact Q3); have p103 : 0 ≤ ((ji9) : Int) := odt; have q103 : (ji9) < (l0.length : Int) := odt; obtain ⟨ad103, e103, hx103_0⟩ := Kd.at_int HR0.out (ji9) p103 q103; obtain rfl : ad101 = ad103 := Q110; replace p103 := eq_true p103; replace q103 := eq_true q103; have p104 : 0 ≤ (x7_1 : Int) := odt; have q104 : x7_1 < (l0.length : Int) := odt; obtain ⟨ad104, e104, hx104_0⟩ := Kd.at_int HR0.out x7_1 p104 q104; obtain rfl : ad101 = ad104 := Q85; replace p104 := eq_true p104; replace q104 := eq_true q104))); (repeat (go_quiet (first | (go_at_call 83; (with_reducible refine (spec_l1In.calls (rd l0 x7_1) a1 a2 true _ A6.out).mono ?_); rintro e w' ⟨rfl, ⟨nd, rfl⟩⟩; (try first | exact Q2 | exact Q3); have p103 : 0 ≤ ((ji9) : Int) := odt; have q103 : (ji9) < (l0.length : Int) := odt; obtain ⟨ad103, e103, hx103_0⟩ := Kd.at_int HR0.out (ji9) p103 q103; obtain rfl : ad101 = ad103 := Q110; replace p103 := eq_true p103; replace q103 := eq_true q103; have p104 : 0 ≤ (x7_1 : Int) := odt; have q104 : x7_1 < (l0.length : Int) := odt; obtain ⟨ad104, e104, hx104_0⟩ := Kd.at_int HR0.out x7_1 p104 q104; obtain rfl : ad101 = ad104 := Q85; replace p104 := eq_true p104; replace q104 := eq_true q104)); try go_wp2_with (first | (go_at_call 83; (with_reducible refine (spec_l1In.calls (rd l0 x7_1) a1 a2 true _ A6.out).mono ?_); rintro e w' ⟨rfl, ⟨nd, rfl⟩⟩; (try first | exact Q2 | exact Q3); have p103 : 0 ≤ ((ji9) : Int) := odt; have q103 : (ji9) < (l0.length : Int) := odt; obtain ⟨ad103, e103, hx103_0⟩ := Kd.at_int HR0.out (ji9) p103 q103; obtain rfl : ad101 = ad103 := Q110; replace p103 := eq_true p103; replace q103 := eq_true q103; have p104 : 0 ≤ (x7_1 : Int) := odt; have q104 : x7_1 < (l0.length : Int) := odt; obtain ⟨ad104, e104, hx104_0⟩ := Kd.at_int HR0.out x7_1 p104 q104; obtain rfl : ad101 = ad104 := Q85; replace p104 := eq_true p104; replace q104 := eq_true q104)))); go_ret; (exact ⟨by first | rfl | (simp; done) | (simp only [← hji9] <;> (first | rfl | simp)) | (simp [*]; done), Q82⟩)
         ·rw [if_neg c12] at H
          (have c12b0 : decide ((rd l0 x7_1) ≤ (rd l0 (ji9))) = false := decide_eq_false c12); clear c12; (have H' := Aside0.mk H); clear H; (have p101 : 0 ≤ (x7_1 : Int) := odt); (have q101 : x7_1 < (l0.length : Int) := odt); (obtain ⟨ad101, e101, hx101_0⟩ := Kd.at_int HR0.out x7_1 p101 q101); (cases e101); (replace p101 := eq_true p101); (replace q101 := eq_true q101); (go_wp2_with (first | (go_at_call 83; (with_reducible refine (spec_l1In.calls (rd l0 x7_1) a1 a2 true _ A6.out).mono ?_); rintro e w' ⟨rfl, ⟨nd, rfl⟩⟩; (try first | exact Q2 | exact Q3); have p103 : 0 ≤ ((ji9) : Int) := odt; have q103 : (ji9) < (l0.length : Int) := odt; obtain ⟨ad103, e103, hx103_0⟩ := Kd.at_int HR0.out (ji9) p103 q103; obtain rfl : ad101 = ad103 := Q110; replace p103 := eq_true p103; replace q103 := eq_true q103; have p104 : 0 ≤ (x7_1 : Int) := odt; have q104 : x7_1 < (l0.length : Int) := odt; obtain ⟨ad104, e104, hx104_0⟩ := Kd.at_int HR0.out x7_1 p104 q104; obtain rfl : ad101 = ad104 := Q85; replace p104 := eq_true p104; replace q104 := eq_true q104))); (repeat (go_quiet (first | (go_at_call 83; (with_reducible refine (spec_l1In.calls (rd l0 x7_1) a1 a2 true _ A6.out).mono ?_); rintro e w' ⟨rfl, ⟨nd, rfl⟩⟩; (try first | exact Q2 | exact Q3); have p103 : 0 ≤ ((ji9) : Int) := odt; have q103 : (ji9) < (l0.length : Int) := odt; obtain ⟨ad103, e103, hx103_0⟩ := Kd.at_int HR0.out (ji9) p103 q103; obtain rfl : ad101 = ad103 := Q110; replace p103 := eq_true p103; replace q103 := eq_true q103; have p104 : 0 ≤ (x7_1 : Int) := odt; have q104 : x7_1 < (l0.length : Int) := odt; obtain ⟨ad104, e104, hx104_0⟩ := Kd.at_int HR0.out x7_1 p104 q104; obtain rfl : ad101 = ad104 := Q85; replace p104 := eq_true p104; replace q104 := eq_true q104)); try go_wp2_with (first | (go_at_call 83; (with_reducible refine (spec_l1In.calls (rd l0 x7_1) a1 a2 true _ A6.out).mono ?_); rintro e w' ⟨rfl, ⟨nd, rfl⟩⟩; (try first | exact Q2 | exact Q3); have p103 : 0 ≤ ((ji9) : Int) := odt; have q103 : (ji9) < (l0.length : Int) := odt; obtain ⟨ad103, e103, hx103_0⟩ := Kd.at_int HR0.out (ji9) p103 q103; obtain rfl : ad101 = ad103 := Q110; replace p103 := eq_true p103; replace q103 := eq_true q103; have p104 : 0 ≤ (x7_1 : Int) := odt; have q104 : x7_1 < (l0.length : Int) := odt; obtain ⟨ad104, e104, hx104_0⟩ := Kd.at_int HR0.out x7_1 p104 q104; obtain rfl : ad101 = ad104 := Q85; replace p104 := eq_true p104; replace q104 := eq_true q104)))); go_roundg k1
          case measure => have := HK1.out; omega
          case rel => exact Q112
        ·rw [if_neg c11] at H
         exact Q11
       ·rw [if_neg c10] at H
        exact Q11
      ·rw [if_neg c8] at H
       (have c8b0 : decide (0 < x7_1) = false := decide_eq_false c8); clear c8; (have H' := Aside0.mk H); clear H; (have p101 : 0 ≤ (x7_1 : Int) := odt); (have q101 : x7_1 < (l0.length : Int) := odt); (obtain ⟨ad101, e101, hx101_0⟩ := Kd.at_int HR0.out x7_1 p101 q101); (cases e101); (replace p101 := eq_true p101); (replace q101 := eq_true q101); (go_wp2_with (first | (go_at_call 83; (with_reducible refine (spec_l1In.calls (rd l0 x7_1) a1 a2 true _ A6.out).mono ?_); rintro e w' ⟨rfl, ⟨nd, rfl⟩⟩; (try first | exact Q2 | exact Q3)))); (repeat (go_quiet (first | (go_at_call 83; (with_reducible refine (spec_l1In.calls (rd l0 x7_1) a1 a2 true _ A6.out).mono ?_); rintro e w' ⟨rfl, ⟨nd, rfl⟩⟩; (try first | exact Q2 | exact Q3))); try go_wp2_with (first | (go_at_call 83; (with_reducible refine (spec_l1In.calls (rd l0 x7_1) a1 a2 true _ A6.out).mono ?_); rintro e w' ⟨rfl, ⟨nd, rfl⟩⟩; (try first | exact Q2 | exact Q3))))); go_roundg k1
       case measure => have := HK1.out; omega
       case rel => exact Q112
     ·replace c7 := Bool.eq_false_iff.mpr c7
      subst c7; (rw [if_neg (show ¬ (false = true) by decide)] at H); (obtain rfl := Option.some.inj H); (have p101 : 0 ≤ (x7_1 : Int) := odt); (have q101 : x7_1 < (l0.length : Int) := odt); (obtain ⟨ad101, e101, hx101_0⟩ := Kd.at_int HR0.out x7_1 p101 q101); (cases e101); (replace p101 := eq_true p101); (replace q101 := eq_true q101); (go_wp2_with (first | (go_at_call 83; (with_reducible refine (spec_l1In.calls (rd l0 x7_1) a1 a2 false _ A6.out).mono ?_); rintro e w' ⟨rfl, ⟨nd, rfl⟩⟩; (try first | exact Q2 | exact Q3)))); (repeat (go_quiet (first | (go_at_call 83; (with_reducible refine (spec_l1In.calls (rd l0 x7_1) a1 a2 false _ A6.out).mono ?_); rintro e w' ⟨rfl, ⟨nd, rfl⟩⟩; (try first | exact Q2 | exact Q3))); try go_wp2_with (first | (go_at_call 83; (with_reducible refine (spec_l1In.calls (rd l0 x7_1) a1 a2 false _ A6.out).mono ?_); rintro e w' ⟨rfl, ⟨nd, rfl⟩⟩; (try first | exact Q2 | exact Q3))))); go_ret; (exact Q0)
    ·rw [if_neg c5] at H
     exact Q11
   ·rw [if_neg c4] at H
    (have c4b0 := decide_eq_false c4); clear c4; (obtain rfl := Option.some.inj H); (go_wp2); (repeat (go_quiet (fail); try go_wp2)); go_ret; (exact Q0)
end Go.Proofs.Ytdbhelhoaciodaa.X
set_option linter.unusedVariables false
set_option linter.unusedSimpArgs false
namespace Go.Proofs.Ytdbhelhoaciodaa.X
open Go.RowKit Go.Proofs.YtdbhelhoaciodaaW.PrintWords Go.Proofs.Ytdbhelhoaciodaa.E
abbrev Item := S83
abbrev Box := S80
theorem l1In_eq (a l h : Int) : spec_l1In.f a l h = some (decide (l ≤ a ∧ a ≤ h)) := by
 unfold spec_l1In.f
 by_cases h1 : a ≥ l
 ·rw [if_pos h1]; congr 1; simp [h1]
 ·rw [if_neg h1]; congr 1; symm; simp; intro h2; omega
theorem within_eq (a l h : Int) : impl_within.f a l h = some (decide (l ≤ a ∧ a ≤ h)) := by
 unfold impl_within.f
 by_cases h1 : a ≥ l
 ·rw [if_pos h1]; congr 1; simp [h1]
 ·rw [if_neg h1]; congr 1; symm; simp; intro h2; omega
def itemAt (items : List Item) (i : Nat) : Bool :=
 decide (1 ≤ (items.getD i z83).f0 ∧ (items.getD i z83).f0 ≤ 9999) && decide (1 ≤ (items.getD i z83).f1 ∧ (items.getD i z83).f1 ≤ 4) && decide (1 ≤ (items.getD i z83).f2 ∧ (items.getD i z83).f2 ≤ 1000) &&
 decide (0 < i → (items.getD (i - 1) z83).f0 < (items.getD i z83).f0)
def itemsOk (items : List Item) : Bool := if (List.range items.length).all (itemAt items) = true then decide ((items.length : Int) ≤ 12) else false
theorem l26Items_ev (items : List Item) (hl : items.length ≤ 9223372036854775807) : Ev (fun k => spec_l26Items.f k items) (itemsOk items) := by
 refine ev_all0 (L := fun k i => spec_l26Items.l0 k items i) items.length (itemAt items) false (decide ((items.length : Int) ≤ 12)) (fun _ => Ev.step (fun k => rfl) (ev_neg (by omega) (ev_now rfl))) ?_ ?_
 ·intro i hi _ hc y hy
  simp only [itemAt, Bool.and_eq_true, decide_eq_true_eq] at hc
  obtain ⟨⟨⟨h1, h2⟩, h3⟩, h4⟩ := hc
  refine Ev.step (fun k => rfl) (ev_pos (by omega) (ev_pos (by omega) ?_))
  simp only [rd_T83, Int.toNat_natCast, l1In_eq]
  refine ev_pos (by simpa using h1) (ev_pos (by simpa using h2) (ev_pos (by simpa using h3) ?_))
  refine ev_ite (fun h0 => ?_) (fun h0 => ?_)
  ·have hp := wrap_pred (i := i) (by omega) (by omega)
   simp only [hp]
   refine ev_pos (by omega) (ev_pos (by omega) (ev_neg ?_ ?_))
   ·have := h4 (by omega); rw [Int.toNat_natCast]; omega
   ·rw [wrap_succ hi hl]; exact hy
  ·rw [wrap_succ hi hl]; exact hy
 ·intro i hi _ hc
  refine Ev.step (fun k => rfl) (ev_pos (by omega) (ev_pos (by omega) ?_))
  simp only [rd_T83, Int.toNat_natCast, l1In_eq]
  refine ev_ite (fun h1 => ?_) (fun _ => ev_now rfl)
  refine ev_ite (fun h2 => ?_) (fun _ => ev_now rfl)
  refine ev_ite (fun h3 => ?_) (fun _ => ev_now rfl)
  have h4 : ¬ (0 < i → (items.getD (i - 1) z83).f0 < (items.getD i z83).f0) := by
   intro h4
   have : itemAt items i = true := by
    simp only [itemAt, Bool.and_eq_true, h1, h2, h3, decide_eq_true_eq, true_and]
    exact h4
   rw [this] at hc; cases hc
  have h5 : 0 < i := by
   rcases Nat.eq_zero_or_pos i with h | h
   ·exact absurd (fun h' => by omega) h4
   ·exact h
  have hp := wrap_pred (i := i) (by omega) (by omega)
  refine ev_pos (by omega) ?_
  simp only [hp]
  refine ev_pos (by omega) (ev_pos (by omega) (ev_pos ?_ (ev_now rfl)))
  rw [Int.toNat_natCast]
  have : ¬ (items.getD (i - 1) z83).f0 < (items.getD i z83).f0 := fun h => h4 (fun _ => h)
  omega
theorem areItems_ev (items : List Item) (hl : items.length ≤ 9223372036854775807) : Ev (fun k => impl_areItems.f k items) (itemsOk items) := by
 refine ev_all0 (L := fun k i => impl_areItems.l0 k items items (items.length : Int) i) items.length (itemAt items) false (decide ((items.length : Int) ≤ 12)) (fun _ => Ev.step (fun k => rfl) (ev_neg (by omega) (ev_now rfl))) ?_ ?_
 ·intro i hi _ hc y hy
  simp only [itemAt, Bool.and_eq_true, decide_eq_true_eq] at hc
  obtain ⟨⟨⟨h1, h2⟩, h3⟩, h4⟩ := hc
  refine Ev.step (fun k => rfl) (ev_pos (by omega) (ev_pos (by omega) (ev_pos (by omega) ?_)))
  simp only [rd_T83, Int.toNat_natCast, impl_isBoxNumber.f, impl_isMaterial.f, within_eq]
  refine ev_pos (by simpa using h1) (ev_pos (by simpa using h2) (ev_pos (by simpa using h3) ?_))
  refine ev_ite (fun h0 => ?_) (fun h0 => ?_)
  ·have hp := wrap_pred (i := i) (by omega) (by omega)
   simp only [hp]
   refine ev_pos (by omega) (ev_pos (by omega) (ev_neg ?_ ?_))
   ·have := h4 (by omega); rw [Int.toNat_natCast]; omega
   ·rw [wrap_succ hi hl]; exact hy
  ·rw [wrap_succ hi hl]; exact hy
 ·intro i hi _ hc
  refine Ev.step (fun k => rfl) (ev_pos (by omega) (ev_pos (by omega) (ev_pos (by omega) ?_)))
  simp only [rd_T83, Int.toNat_natCast, impl_isBoxNumber.f, impl_isMaterial.f, within_eq]
  refine ev_ite (fun h1 => ?_) (fun _ => ev_now rfl)
  refine ev_ite (fun h2 => ?_) (fun _ => ev_now rfl)
  refine ev_ite (fun h3 => ?_) (fun _ => ev_now rfl)
  have h4 : ¬ (0 < i → (items.getD (i - 1) z83).f0 < (items.getD i z83).f0) := by
   intro h4
   have : itemAt items i = true := by
    simp only [itemAt, Bool.and_eq_true, decide_eq_true_eq]
    simp only [Option.bind_some, decide_eq_true_eq] at h1 h2 h3
    exact ⟨⟨⟨h1, h2⟩, h3⟩, h4⟩
   rw [this] at hc; cases hc
  have h5 : 0 < i := by
   rcases Nat.eq_zero_or_pos i with h | h
   ·exact absurd (fun h' => by omega) h4
   ·exact h
  have hp := wrap_pred (i := i) (by omega) (by omega)
  refine ev_pos (by omega) ?_
  simp only [hp]
  refine ev_pos (by omega) (ev_pos (by omega) (ev_pos ?_ (ev_now rfl)))
  rw [Int.toNat_natCast]
  have : ¬ (items.getD (i - 1) z83).f0 < (items.getD i z83).f0 := fun h => h4 (fun _ => h)
  omega
abbrev fnd (items : List Item) (n : Int) : Int := idxG (fun x : Item => x.f0 == n) 0 items
theorem l26Find_ev (items : List Item) (n : Int) (hl : items.length ≤ 9223372036854775807) : Ev (fun k => spec_l26Find.f k items n) (fnd items n) := by
 have h := ev_walk (L := fun k i => spec_l26Find.l0 k items n i) (G := fun i r => idxG (fun x : Item => x.f0 == n) i r) items (Ev.step (fun k => rfl) (ev_neg (by omega) (ev_now rfl))) ?step
 case step =>
  intro i x r hi hd hx hk
  refine Ev.step (fun k => rfl) (ev_pos (by omega) (ev_pos (by omega) ?_))
  simp only [rd_T83, Int.toNat_natCast, hx]
  by_cases c : x.f0 = n
  ·exact ev_pos c (ev_now (by simp [idxG, c]))
  ·refine ev_neg c ?_
   rw [wrap_succ hi hl]
   exact ev_cast hk (by simp [idxG, c])
 exact h
end Go.Proofs.Ytdbhelhoaciodaa.X
set_option linter.unusedVariables false
set_option linter.unusedSimpArgs false
namespace Go.Proofs.Ytdbhelhoaciodaa.X
open Go.RowKit Go.Proofs.YtdbhelhoaciodaaW.PrintWords Go.Proofs.Ytdbhelhoaciodaa.E
theorem l1Has_ev (l : List Int) (n : Int) (hl : l.length ≤ 9223372036854775807) : Ev (fun k => spec_l1Has.f k l n) (decide (n ∈ l)) := by
 have h := ev_walk (L := fun k i => spec_l1Has.l0 k l n i) (G := fun _ r => decide (n ∈ r)) l (Ev.step (fun k => rfl) (ev_neg (by omega) (ev_now (by simp)))) ?step
 case step =>
  intro i x r hi hd hx hk
  refine Ev.step (fun k => rfl) (ev_pos (by omega) (ev_pos (by omega) ?_))
  simp only [rd, Int.toNat_natCast, hx]
  by_cases c : x = n
  ·exact ev_pos c (ev_now (by simp [c]))
  ·refine ev_neg c ?_
   rw [wrap_succ hi hl]
   have c' : ¬ n = x := fun h => c h.symm
   exact ev_cast hk (by simp [c'])
 exact h
theorem slicesIndexInt_ev (l : List Int) (n : Int) (hl : l.length ≤ 9223372036854775807) : Ev (fun k => slices_Index_int_int.f k l n) (idxG (fun x => decide (x = n)) 0 l) := by
 have h := ev_walk (L := fun k i => slices_Index_int_int.l0 k l n (l.length : Int) i) (G := fun i r => idxG (fun x => decide (x = n)) i r) l (Ev.step (fun k => rfl) (ev_neg (by omega) (ev_now rfl))) ?step
 case step =>
  intro i x r hi hd hx hk
  refine Ev.step (fun k => rfl) (ev_pos (by omega) (ev_pos (by omega) (ev_pos (by omega) ?_)))
  simp only [rd, Int.toNat_natCast, hx]
  by_cases c : n = x
  ·exact ev_pos c (ev_now (by simp [idxG, c]))
  ·refine ev_neg c ?_
   rw [wrap_succ hi hl]
   have c' : ¬ x = n := fun h => c h.symm
   exact ev_cast hk (by simp [idxG, c'])
 exact h
theorem slicesContainsInt_ev (l : List Int) (n : Int) (hl : l.length ≤ 9223372036854775807) : Ev (fun k => slices_Contains_int_int.f k l n) (decide (n ∈ l)) := by
 unfold slices_Contains_int_int.f
 refine Ev.bind (slicesIndexInt_ev l n hl) (ev_now ?_)
 rw [show decide (idxG (fun x => decide (x = n)) 0 l ≥ 0) = decide (0 ≤ idxG (fun x => decide (x = n)) 0 l) from rfl, idxG_nonneg, Bool.eq_iff_iff]
 simp [List.any_eq_true]
def boxOf (bs : List S80) (n : Int) : Int × Bool := match bs.find? (fun b => decide (n ∈ b.f1)) with
 | some b => (b.f0, true)
 | none => (0, false)
theorem l26Box_ev (bs : List S80) (n : Int) (hl : bs.length ≤ 9223372036854775807) (hi : ∀ b ∈ bs, b.f1.length ≤ 9223372036854775807) : Ev (fun k => spec_l26Box.f k bs n) (idxG (fun b => decide (n ∈ b.f1)) 0 bs) := by
 have h := ev_walk (L := fun k i => spec_l26Box.l0 k bs n i) (G := fun i r => idxG (fun b : S80 => decide (n ∈ b.f1)) i r) bs (Ev.step (fun k => rfl) (ev_neg (by omega) (ev_now rfl))) ?step
 case step =>
  intro i x r hlt hd hx hk
  refine Ev.step (fun k => rfl) (ev_pos (by omega) (ev_pos (by omega) ?_))
  simp only [rd_T80, Int.toNat_natCast, hx]
  have hm : x ∈ bs := List.mem_of_getElem? (drop_cons hd x).2.2.2
  refine Ev.bind (l1Has_ev x.f1 n (hi x hm)) ?_
  by_cases c : n ∈ x.f1
  ·exact ev_pos (by simp [c]) (ev_now (by simp [idxG, c]))
  ·refine ev_neg (by simp [c]) ?_
   rw [wrap_succ hlt hl]
   exact ev_cast hk (by simp [idxG, c])
 exact h
theorem implBoxOf_ev (bs : List S80) (n : Int) (hl : bs.length ≤ 9223372036854775807) (hi : ∀ b ∈ bs, b.f1.length ≤ 9223372036854775807) : Ev (fun k => impl_BoxOf.f k bs n) (boxOf bs n) := by
 have h := ev_walk (L := fun k i => impl_BoxOf.l0 k n bs (bs.length : Int) i) (G := fun _ r => boxOf r n) bs (Ev.step (fun k => rfl) (ev_neg (by omega) (ev_now rfl))) ?step
 case step =>
  intro i x r hlt hd hx hk
  refine Ev.step (fun k => rfl) (ev_pos (by omega) (ev_pos (by omega) (ev_pos (by omega) ?_)))
  simp only [rd_T80, Int.toNat_natCast, hx]
  have hm : x ∈ bs := List.mem_of_getElem? (drop_cons hd x).2.2.2
  refine Ev.bind (slicesContainsInt_ev x.f1 n (hi x hm)) ?_
  by_cases c : n ∈ x.f1
  ·exact ev_pos (by simp [c]) (ev_now (by simp [boxOf, c]))
  ·refine ev_neg (by simp [c]) ?_
   rw [wrap_succ hlt hl]
   exact ev_cast hk (by simp [boxOf, c])
 exact h
end Go.Proofs.Ytdbhelhoaciodaa.X
set_option linter.unusedVariables false
set_option linter.unusedSimpArgs false
namespace Go.Proofs.Ytdbhelhoaciodaa.X
open Go.RowKit Go.Proofs.YtdbhelhoaciodaaW.PrintWords Go.Proofs.Ytdbhelhoaciodaa.E
theorem asc_ext : ∀ {a b : List Int}, a.Pairwise (· < ·) → b.Pairwise (· < ·) → (∀ x, x ∈ a ↔ x ∈ b) → a = b
 | [], [], _, _, _ => rfl
 | [], y :: b, _, _, h => by have := (h y).2 List.mem_cons_self; simp at this
 | x :: a, [], _, _, h => by have := (h x).1 List.mem_cons_self; simp at this
 | x :: a, y :: b, ha, hb, h => by
  rw [List.pairwise_cons] at ha hb
  have e : x = y := by
   have h1 := (h x).1 List.mem_cons_self
   have h2 := (h y).2 List.mem_cons_self
   rcases List.mem_cons.1 h1 with e | e
   ·exact e
   ·rcases List.mem_cons.1 h2 with e2 | e2
    ·exact e2.symm
    ·have := hb.1 x e
     have := ha.1 y e2
     omega
  subst e
  congr 1
  refine asc_ext ha.2 hb.2 (fun z => ⟨fun hz => ?_, fun hz => ?_⟩)
  ·have := ha.1 z hz
   rcases List.mem_cons.1 ((h z).1 (List.mem_cons_of_mem _ hz)) with e | e
   ·omega
   ·exact e
  ·have := hb.1 z hz
   rcases List.mem_cons.1 ((h z).2 (List.mem_cons_of_mem _ hz)) with e | e
   ·omega
   ·exact e
def putL (n : Int) : List Int → List Int
 | [] => [n]
 | x :: l => if x < n then x :: putL n l else if x = n then x :: l else n :: x :: l
theorem mem_putL (n : Int) : ∀ (l : List Int) (z : Int), z ∈ putL n l ↔ z = n ∨ z ∈ l
 | [], z => by simp [putL]
 | x :: l, z => by
  rw [putL]
  split
  ·rw [List.mem_cons, mem_putL n l z, List.mem_cons]
   constructor
   ·rintro (h | h | h)
    ·exact .inr (.inl h)
    ·exact .inl h
    ·exact .inr (.inr h)
   ·rintro (h | h | h)
    ·exact .inr (.inl h)
    ·exact .inl h
    ·exact .inr (.inr h)
  ·split
   next _ e => 
    subst e
    simp
   ·simp
theorem asc_putL (n : Int) : ∀ {l : List Int}, l.Pairwise (· < ·) → (putL n l).Pairwise (· < ·)
 | [], _ => by simp [putL]
 | x :: l, h => by
  rw [List.pairwise_cons] at h
  rw [putL]
  split
  next c =>
   rw [List.pairwise_cons]
   refine ⟨fun z hz => ?_, asc_putL n h.2⟩
   rcases (mem_putL n l z).1 hz with e | e
   ·omega
   ·exact h.1 z e
  next c =>
   split
   next e => exact List.pairwise_cons.2 h
   next e =>
    rw [List.pairwise_cons]
    refine ⟨fun z hz => ?_, List.pairwise_cons.2 h⟩
    rcases List.mem_cons.1 hz with e2 | e2
    ·omega
    ·have := h.1 z e2
     omega
def putAllL (xs : List Int) : List Int := xs.foldl (fun l n => putL n l) []
theorem fold_put (xs : List Int) : ∀ l : List Int, l.Pairwise (· < ·) → (xs.foldl (fun l n => putL n l) l).Pairwise (· < ·) ∧ ∀ z, z ∈ xs.foldl (fun l n => putL n l) l ↔ z ∈ l ∨ z ∈ xs := by
 induction xs with
 | nil => intro l h; exact ⟨h, fun z => by simp⟩
 | cons x xs ih =>
  intro l h
  obtain ⟨h1, h2⟩ := ih (putL x l) (asc_putL x h)
  refine ⟨h1, fun z => ?_⟩
  rw [List.foldl_cons, h2 z, mem_putL, List.mem_cons]
  constructor
  ·rintro ((h | h) | h)
   ·exact .inr (.inl h)
   ·exact .inl h
   ·exact .inr (.inr h)
  ·rintro (h | h | h)
   ·exact .inl (.inr h)
   ·exact .inl (.inl h)
   ·exact .inr h
theorem compact_asc {l : List Int} (hs : l.Pairwise (· ≤ ·)) : ∀ m, m ≤ l.length → (Lib.compactUpTo l.toArray m).Pairwise (· < ·) ∧ ∀ z, z ∈ Lib.compactUpTo l.toArray m ↔ z ∈ l.take m := by
 have hget : ∀ j, j < l.length → l.toArray[j]! = l.getD j 0 := by
  intro j hj
  rw [getElem!_pos l.toArray j (by simpa using hj), List.getElem_toArray, getD_in hj]
 have hle : ∀ i j, i ≤ j → j < l.length → l.getD i 0 ≤ l.getD j 0 := by
  intro i j hij hj
  by_cases e : i = j
  ·rw [e]; exact Int.le_refl _
  ·have := (List.pairwise_iff_getElem.1 hs) i j (by omega) hj (by omega)
   rw [getD_in (show i < l.length by omega), getD_in hj]
   exact this
 intro m
 induction m with
 | zero => intro _; exact ⟨by simp [Lib.compactUpTo], fun z => by simp [Lib.compactUpTo]⟩
 | succ m ih =>
  intro hm
  obtain ⟨h1, h2⟩ := ih (by omega)
  have hup : ∀ z, z ∈ l.take m → ∃ j, j < m ∧ z = l.getD j 0 := by
   intro z hz
   obtain ⟨j, hj, e⟩ := List.mem_iff_getElem.1 hz
   rw [List.length_take] at hj
   rw [List.getElem_take] at e
   exact ⟨j, by omega, by rw [getD_in (show j < l.length by omega)]; exact e.symm⟩
  rw [Lib.compactUpTo_succ, List.take_succ_eq_append_getElem (show m < l.length by omega), hget m (by omega)]
  rw [← getD_in (show m < l.length by omega) 0]
  by_cases k : Lib.keeps l.toArray m = true
  ·rw [if_pos k]
   refine ⟨List.pairwise_append.2 ⟨h1, by simp, fun a ha b hb => ?_⟩, fun z => by rw [List.mem_append, List.mem_append, h2 z]⟩
   rw [List.mem_singleton.1 hb]
   obtain ⟨j, hj, rfl⟩ := hup a ((h2 a).1 ha)
   have hj1 := hle j (m - 1) (by omega) (by omega)
   have hj2 := hle (m - 1) m (by omega) (by omega)
   have hne : l.getD (m - 1) 0 ≠ l.getD m 0 := by
    unfold Lib.keeps at k
    rw [hget m (by omega), hget (m - 1) (by omega)] at k
    intro e
    rw [e] at k
    simp at k
    omega
   omega
  ·rw [if_neg k, List.append_nil]
   have hm0 : m ≠ 0 := by
    intro e
    subst e
    exact k (by simp [Lib.keeps])
   have heq : l.getD m 0 = l.getD (m - 1) 0 := by
    apply Classical.byContradiction
    intro hne
    refine k ?_
    unfold Lib.keeps
    rw [hget m (by omega), hget (m - 1) (by omega)]
    simp [hm0]
    first | exact hne | exact fun e => hne e | exact fun e => hne e.symm | omega
   refine ⟨h1, fun z => ?_⟩
   rw [h2 z, List.mem_append, List.mem_singleton]
   constructor
   ·exact .inl
   ·rintro (h | h)
    ·exact h
    ·rw [h, heq, getD_in (show m - 1 < l.length by omega)]
     exact List.mem_iff_getElem.2 ⟨m - 1, by rw [List.length_take]; omega, by rw [List.getElem_take]⟩
theorem sorted_put (xs : List Int) : Lib.compact (xs.mergeSort fun x y => decide (x ≤ y)) = putAllL xs := by
 have hs : (xs.mergeSort fun x y => decide (x ≤ y)).Pairwise (· ≤ ·) := by
  have := List.pairwise_mergeSort (le := fun x y : Int => decide (x ≤ y)) (fun a b c h1 h2 => by simp at *; omega) (fun a b => by simp; omega) xs
  exact this.imp (fun h => by simpa using h)
 obtain ⟨h1, h2⟩ := compact_asc hs _ (Nat.le_refl _)
 obtain ⟨h3, h4⟩ := fold_put xs [] List.Pairwise.nil
 refine asc_ext (by unfold Lib.compact; exact h1) h3 (fun z => ?_)
 unfold Lib.compact
 rw [h2 z, List.take_length, List.mem_mergeSort, show (z ∈ putAllL xs ↔ z ∈ ([] : List Int) ∨ z ∈ xs) from h4 z]
 simp
theorem putL_length (n : Int) : ∀ l : List Int, (putL n l).length ≤ l.length + 1
 | [] => by simp [putL]
 | x :: l => by
  have := putL_length n l
  rw [putL]
  split
  ·rw [List.length_cons, List.length_cons]; omega
  ·split
   ·exact Nat.le_succ _
   ·rw [List.length_cons]; exact Nat.le_refl _
theorem l1Put_ev (l : List Int) (n : Int) (hl : l.length ≤ 1000000) : Ev (fun k => spec_l1Put.f k l n) (putL n l) := by
 have key : ∀ m i : Nat, i + m = l.length → Ev (fun k => spec_l1Put.l0 k l n (i : Int)) (l.take i ++ putL n (l.drop i)) := by
  intro m
  induction m with
  | zero =>
   intro i hi
   have e1 : (l.take (i : Int).toNat).length = i := by rw [Int.toNat_natCast, List.length_take]; omega
   refine Ev.step (fun k => rfl) (ev_neg (by omega) (ev_some (ev_pos (by omega) (ev_pos (by omega) (ev_some (ev_pos (by rw [e1]; simp; omega) (ev_some (ev_some (ev_pos (by rw [List.length_append, e1]; simp; omega) (ev_some (ev_some (ev_pos (by rw [List.length_append, List.length_append, e1, List.length_drop]; simp; omega) (ev_now ?_)))))))))))))
   rw [Int.toNat_natCast, List.nil_append, List.drop_eq_nil_of_le (by omega), putL, List.append_nil]
  | succ m ih =>
   intro i hi
   have hlt : i < l.length := by omega
   have e1 : (l.take (i : Int).toNat).length = i := by rw [Int.toNat_natCast, List.length_take]; omega
   have hrd : rd l (i : Int) = l[i] := by rw [rd_nat, getD_in hlt]
   have hdr : l.drop i = l[i] :: l.drop (i + 1) := List.drop_eq_getElem_cons hlt
   refine Ev.step (fun k => rfl) (ev_pos (by omega) (ev_pos (by omega) ?_))
   rw [hrd]
   by_cases c : l[i] < n
   ·refine ev_pos c ?_
    rw [wrap_succ hlt (by omega)]
    refine ev_cast (ih (i + 1) (by omega)) ?_
    rw [List.take_succ_eq_append_getElem hlt, hdr, putL, if_pos c, List.append_assoc]
    rfl
   refine ev_neg c ?_
   by_cases d : l[i] = n
   ·refine ev_pos d (ev_now ?_)
    rw [hdr, putL, if_neg c, if_pos d, ← hdr, List.take_append_drop]
   refine ev_neg d (ev_some (ev_pos (by omega) (ev_some (ev_pos (by rw [e1]; simp; omega) (ev_some (ev_some (ev_pos (by rw [List.length_append, e1]; simp; omega) (ev_some (ev_some (ev_pos (by rw [List.length_append, List.length_append, e1, List.length_drop]; simp; omega) (ev_now ?_)))))))))))
   rw [Int.toNat_natCast, List.nil_append, hdr, putL, if_neg c, if_neg d, List.append_assoc]
   rfl
 have h := key l.length 0 (by omega)
 rw [List.take_zero, List.drop_zero, List.nil_append] at h
 exact h
end Go.Proofs.Ytdbhelhoaciodaa.X
set_option linter.unusedVariables false
set_option linter.unusedSectionVars false
set_option linter.unusedSimpArgs false
namespace Go.Proofs.Ytdbhelhoaciodaa.X
open Go.RowKit Go.Proofs.YtdbhelhoaciodaaW.PrintWords Go.Proofs.Ytdbhelhoaciodaa.E
theorem itemOf_eq (items : List Item) (n : Int) : impl_itemOf.f items n = some (fnd items n) := rfl
def held (boxes : List Box) (n : Int) : Bool := boxes.any (fun b => decide (n ∈ b.f1))
def missL (boxes : List Box) (items : List Item) : List Int := (items.filter (fun x => !held boxes x.f0)).map (·.f0)
def oddL (items : List Item) (l : List Int) : List Int := l.filter (fun n => decide (fnd items n < 0))
def allL (boxes : List Box) : List Int := boxes.flatMap (·.f1)
def tooMuch (boxes : List Box) : Bool := boxes.any (fun b => decide (12 < (b.f1.length : Int)))
def stepS (items : List Item) (s : List Int) (n : Int) : List Int := if fnd items n < 0 then putL n s else s
theorem stepS_len (items : List Item) (l : List Int) : ∀ s : List Int, (l.foldl (stepS items) s).length ≤ s.length + l.length := by
 induction l with
 | nil => intro s; simp
 | cons n l ih =>
  intro s
  have h1 := ih (stepS items s n)
  have h2 : (stepS items s n).length ≤ s.length + 1 := by
   unfold stepS
   split
   ·exact putL_length n s
   ·omega
  rw [List.foldl_cons, List.length_cons]
  omega
theorem stepS_fold (items : List Item) (l : List Int) : ∀ s : List Int, l.foldl (stepS items) s = (oddL items l).foldl (fun l n => putL n l) s := by
 induction l with
 | nil => intro s; rfl
 | cons n l ih =>
  intro s
  rw [List.foldl_cons, ih]
  unfold oddL stepS
  by_cases c : fnd items n < 0
  ·rw [if_pos c, List.filter_cons_of_pos (by simpa using c), List.foldl_cons]
  ·rw [if_neg c, List.filter_cons_of_neg (by simpa using c)]
section
variable {items : List Item} {boxes : List Box} (hl : items.length ≤ 1048576) (hb : boxes.length ≤ 12) (hi : ∀ b ∈ boxes, b.f1.length ≤ 1048576)
include hl hb hi
theorem specIn_ev {i : Nat} (hlt : i < boxes.length) (h12 : boxes[i].f1.length ≤ 12) {y : List Int × List Int × Bool} : ∀ (m j : Nat) (s : List Int), j + m = boxes[i].f1.length → s.length ≤ 12 * i + j → Ev (fun k => spec_MissingNumbers.l0 k items boxes [] ((boxes[i].f1.drop j).foldl (stepS items) s) ((i + 1 : Nat) : Int)) y → Ev (fun k => spec_MissingNumbers.l1 k items boxes [] s (i : Int) (j : Int)) y := by
 have hrd : rd_T80 boxes (i : Int) = boxes[i] := by unfold rd_T80; rw [Int.toNat_natCast, getD_in hlt]
 intro m
 induction m with
 | zero =>
  intro j s hj hs h
  rw [List.drop_eq_nil_of_le (by omega), List.foldl_nil] at h
  refine Ev.step (fun k => rfl) (ev_pos (by omega) (ev_pos (by omega) ?_))
  rw [hrd]
  refine ev_neg (by omega) ?_
  rw [wrap_succ hlt (by omega)]
  exact h
 | succ m ih =>
  intro j s hj hs h
  have hjl : j < boxes[i].f1.length := by omega
  rw [List.drop_eq_getElem_cons hjl, List.foldl_cons] at h
  refine Ev.step (fun k => rfl) (ev_pos (by omega) (ev_pos (by omega) ?_))
  rw [hrd]
  refine ev_pos (by omega) (ev_pos (by omega) ?_)
  rw [rd_nat, getD_in hjl]
  refine Ev.bind (l26Find_ev items _ (by omega)) ?_
  rw [wrap_succ hjl (by omega)]
  unfold stepS at h
  by_cases c : fnd items boxes[i].f1[j] < 0
  ·rw [if_pos c] at h
   have hp := putL_length boxes[i].f1[j] s
   exact ev_pos c (Ev.bind (l1Put_ev s _ (by omega)) (ih (j + 1) _ (by omega) (by omega) h))
  ·rw [if_neg c] at h
   exact ev_neg c (ih (j + 1) s (by omega) (by omega) h)
theorem specMiss_ev (s : List Int) : ∀ (m i : Nat) (acc : List Int), i + m = items.length → acc.length ≤ i → Ev (fun k => spec_MissingNumbers.l2 k items boxes acc s (i : Int)) (acc ++ missL boxes (items.drop i), s, true) := by
 intro m
 induction m with
 | zero =>
  intro i acc hi2 ha
  refine Ev.step (fun k => rfl) (ev_neg (by omega) (ev_now ?_))
  rw [List.drop_eq_nil_of_le (by omega)]
  simp [missL]
 | succ m ih =>
  intro i acc hi2 ha
  have hlt : i < items.length := by omega
  have hrd : rd_T83 items (i : Int) = items[i] := by unfold rd_T83; rw [Int.toNat_natCast, getD_in hlt]
  refine Ev.step (fun k => rfl) (ev_pos (by omega) (ev_pos (by omega) ?_))
  rw [hrd, wrap_succ hlt (by omega)]
  refine Ev.bind (l26Box_ev boxes items[i].f0 (by omega) (fun b h => Nat.le_trans (hi b h) (by decide))) ?_
  have hn := idxG_nonneg (fun b : Box => decide (items[i].f0 ∈ b.f1)) boxes 0
  rw [List.drop_eq_getElem_cons hlt]
  unfold missL
  by_cases c : held boxes items[i].f0 = true
  ·have c2 : ¬ idxG (fun b : Box => decide (items[i].f0 ∈ b.f1)) 0 boxes < 0 := by
    rw [show boxes.any (fun b => decide (items[i].f0 ∈ b.f1)) = true from c] at hn
    have := of_decide_eq_true hn
    omega
   rw [List.filter_cons_of_neg (by simpa using c)]
   exact ev_neg c2 (ih (i + 1) acc (by omega) (by omega))
  ·have c' : held boxes items[i].f0 = false := by simpa using c
   have c2 : idxG (fun b : Box => decide (items[i].f0 ∈ b.f1)) 0 boxes < 0 := by
    rw [show boxes.any (fun b => decide (items[i].f0 ∈ b.f1)) = false from c'] at hn
    have := of_decide_eq_false hn
    omega
   rw [List.filter_cons_of_pos (by simpa using c'), List.map_cons]
   refine ev_pos c2 (ev_pos (by omega) ?_)
   have h := ih (i + 1) (acc ++ [items[i].f0]) (by omega) (by rw [List.length_append, List.length_singleton]; omega)
   rw [List.append_assoc] at h
   exact h
theorem specBoxes_ev : ∀ (m i : Nat) (s : List Int), i + m = boxes.length → s.length ≤ 12 * i → Ev (fun k => spec_MissingNumbers.l0 k items boxes [] s (i : Int)) (if tooMuch (boxes.drop i) = true then ([], [], false) else (missL boxes items, (allL (boxes.drop i)).foldl (stepS items) s, true)) := by
 intro m
 induction m with
 | zero =>
  intro i s hi2 hs
  have h := specMiss_ev hl hb hi s items.length 0 [] (by omega) (by simp)
  rw [List.drop_eq_nil_of_le (by omega)]
  refine Ev.step (fun k => rfl) (ev_neg (by omega) ?_)
  rw [List.nil_append, List.drop_zero] at h
  exact h
 | succ m ih =>
  intro i s hi2 hs
  have hlt : i < boxes.length := by omega
  have hrd : rd_T80 boxes (i : Int) = boxes[i] := by unfold rd_T80; rw [Int.toNat_natCast, getD_in hlt]
  have e1 : tooMuch (boxes.drop i) = (decide (12 < (boxes[i].f1.length : Int)) || tooMuch (boxes.drop (i + 1))) := by
   rw [List.drop_eq_getElem_cons hlt]
   rfl
  have e2 : allL (boxes.drop i) = boxes[i].f1 ++ allL (boxes.drop (i + 1)) := by
   rw [List.drop_eq_getElem_cons hlt]
   rfl
  refine Ev.step (fun k => rfl) (ev_pos (by omega) (ev_pos (by omega) ?_))
  rw [hrd, e1, e2, List.foldl_append]
  by_cases c : 12 < (boxes[i].f1.length : Int)
  ·rw [decide_eq_true c, Bool.true_or, if_pos rfl]
   exact ev_pos c (ev_now rfl)
  ·rw [decide_eq_false c, Bool.false_or]
   have hsl := stepS_len items boxes[i].f1 s
   have h := ih (i + 1) (boxes[i].f1.foldl (stepS items) s) (by omega) (by omega)
   exact ev_neg c (specIn_ev hl hb hi hlt (by omega) boxes[i].f1.length 0 s (by omega) (by omega) h)
theorem implIn_ev {i : Nat} (hlt : i < boxes.length) (h12 : boxes[i].f1.length ≤ 12) (ms : List Int) {y : List Int × List Int × Bool} : ∀ (m j : Nat) (s : List Int), j + m = boxes[i].f1.length → s.length ≤ 12 * i + j → Ev (fun k => impl_MissingNumbers.l1 k items ms (s ++ oddL items (boxes[i].f1.drop j)) boxes (boxes.length : Int) ((i + 1 : Nat) : Int)) y → Ev (fun k => impl_MissingNumbers.l2 k items ms s boxes (boxes.length : Int) (i : Int) boxes[i].f1 (boxes[i].f1.length : Int) (j : Int)) y := by
 intro m
 induction m with
 | zero =>
  intro j s hj hs h
  rw [List.drop_eq_nil_of_le (by omega), show oddL items [] = [] from rfl, List.append_nil] at h
  refine Ev.step (fun k => rfl) (ev_neg (by omega) ?_)
  rw [wrap_succ hlt (by omega)]
  exact h
 | succ m ih =>
  intro j s hj hs h
  have hjl : j < boxes[i].f1.length := by omega
  rw [List.drop_eq_getElem_cons hjl] at h
  refine Ev.step (fun k => rfl) (ev_pos (by omega) (ev_pos (by omega) (ev_pos (by omega) ?_)))
  rw [rd_nat, getD_in hjl, itemOf_eq, wrap_succ hjl (by omega)]
  refine ev_some ?_
  unfold oddL at h
  by_cases c : fnd items boxes[i].f1[j] < 0
  ·rw [List.filter_cons_of_pos (by simpa using c)] at h
   refine ev_pos c (ev_pos (by omega) (ih (j + 1) _ (by omega) (by rw [List.length_append, List.length_singleton]; omega) ?_))
   rw [List.append_assoc]
   exact h
  ·rw [List.filter_cons_of_neg (by simpa using c)] at h
   exact ev_neg c (ih (j + 1) s (by omega) (by omega) h)
theorem implBoxes_ev (h12 : ∀ b ∈ boxes, b.f1.length ≤ 12) (ms : List Int) : ∀ (m i : Nat) (s : List Int), i + m = boxes.length → s.length ≤ 12 * i → Ev (fun k => impl_MissingNumbers.l1 k items ms s boxes (boxes.length : Int) (i : Int)) (ms, putAllL (s ++ oddL items (allL (boxes.drop i))), true) := by
 intro m
 induction m with
 | zero =>
  intro i s hi2 hs
  rw [List.drop_eq_nil_of_le (by omega), show oddL items (allL []) = [] from rfl, List.append_nil]
  refine Ev.step (fun k => rfl) (ev_neg (by omega) (ev_bind0 (show _ = some (s.mergeSort fun x y => decide (x ≤ y)) from if_pos (by omega)) (ev_bind0 (show _ = some (Lib.compact (s.mergeSort fun x y => decide (x ≤ y))) from if_pos (by rw [List.length_mergeSort]; omega)) (ev_now ?_))))
  rw [sorted_put]
 | succ m ih =>
  intro i s hi2 hs
  have hlt : i < boxes.length := by omega
  have hrd : rd_T80 boxes (i : Int) = boxes[i] := by unfold rd_T80; rw [Int.toNat_natCast, getD_in hlt]
  have e2 : oddL items (allL (boxes.drop i)) = oddL items boxes[i].f1 ++ oddL items (allL (boxes.drop (i + 1))) := by
   rw [List.drop_eq_getElem_cons hlt, show allL (boxes[i] :: boxes.drop (i + 1)) = boxes[i].f1 ++ allL (boxes.drop (i + 1)) from rfl]
   exact List.filter_append _ _
  have hbl := h12 _ (List.getElem_mem hlt)
  have hol : (oddL items boxes[i].f1).length ≤ 12 := Nat.le_trans (List.length_filter_le _ _) hbl
  have h := ih (i + 1) (s ++ oddL items boxes[i].f1) (by omega) (by rw [List.length_append]; omega)
  rw [List.append_assoc] at h
  rw [e2]
  refine Ev.step (fun k => rfl) (ev_pos (by omega) (ev_pos (by omega) (ev_pos (by omega) ?_)))
  rw [hrd]
  exact implIn_ev hl hb hi hlt hbl ms boxes[i].f1.length 0 s (by omega) (by omega) h
theorem boxOf_snd (n : Int) : (boxOf boxes n).2 = held boxes n := by
 unfold boxOf held
 cases h : boxes.find? (fun b => decide (n ∈ b.f1)) with
 | none =>
  rw [List.find?_eq_none] at h
  symm
  rw [List.any_eq_false]
  exact h
 | some b =>
  symm
  rw [List.any_eq_true]
  have h2 := List.find?_some (p := fun b : Box => decide (n ∈ b.f1)) h
  exact ⟨b, List.mem_of_find?_eq_some h, h2⟩
theorem implMiss_ev {y : List Int × List Int × Bool} : ∀ (m i : Nat) (acc : List Int), i + m = items.length → acc.length ≤ i → Ev (fun k => impl_MissingNumbers.l1 k items (acc ++ missL boxes (items.drop i)) [] boxes (boxes.length : Int) 0) y → Ev (fun k => impl_MissingNumbers.l0 k items boxes acc [] items (items.length : Int) (i : Int)) y := by
 intro m
 induction m with
 | zero =>
  intro i acc hi2 ha h
  rw [List.drop_eq_nil_of_le (by omega), show missL boxes [] = [] from rfl, List.append_nil] at h
  exact Ev.step (fun k => rfl) (ev_neg (by omega) h)
 | succ m ih =>
  intro i acc hi2 ha h
  have hlt : i < items.length := by omega
  have hrd : rd_T83 items (i : Int) = items[i] := by unfold rd_T83; rw [Int.toNat_natCast, getD_in hlt]
  rw [List.drop_eq_getElem_cons hlt] at h
  refine Ev.step (fun k => rfl) (ev_pos (by omega) (ev_pos (by omega) (ev_pos (by omega) ?_)))
  rw [hrd, wrap_succ hlt (by omega)]
  refine Ev.bind (implBoxOf_ev boxes items[i].f0 (by omega) (fun b h => Nat.le_trans (hi b h) (by decide))) ?_
  rw [boxOf_snd hl hb hi]
  unfold missL at h
  by_cases c : held boxes items[i].f0 = true
  ·rw [List.filter_cons_of_neg (by simpa using c)] at h
   exact ev_pos c (ih (i + 1) acc (by omega) (by omega) h)
  ·have c' : held boxes items[i].f0 = false := by simpa using c
   rw [List.filter_cons_of_pos (by simpa using c'), List.map_cons] at h
   refine ev_neg c (ev_pos (by omega) (ih (i + 1) _ (by omega) (by rw [List.length_append, List.length_singleton]; omega) ?_))
   rw [List.append_assoc]
   exact h
end
theorem miss_both (items : List Item) (boxes : List Box) (hl : items.length ≤ 1048576) (hbl : boxes.length ≤ 1048576) (hi : ∀ b ∈ boxes, b.f1.length ≤ 1048576) :
  ∃ (a b : List Int) (c : Bool), a.length ≤ 1000 ∧ b.length ≤ 1000 ∧ Ev (fun k => spec_MissingNumbers.f k items boxes) (a, b, c) ∧ Ev (fun k => impl_MissingNumbers.f k items boxes) (a, b, c) := by
 have h1 := l26Items_ev items (by omega)
 have h2 := areItems_ev items (by omega)
 have no1 : Ev (fun k => spec_MissingNumbers.j0 k items boxes [] [] true) (([] : List Int), ([] : List Int), false) := Ev.step (fun k => rfl) (ev_now rfl)
 have no2 : Ev (fun k => impl_MissingNumbers.j0 k items boxes true) (([] : List Int), ([] : List Int), false) := Ev.step (fun k => rfl) (ev_now rfl)
 cases hv : itemsOk items
 ·rw [hv] at h1 h2
  exact ⟨[], [], false, by simp, by simp, ev_some (ev_some (Ev.bind h1 (ev_neg (by simp) no1))), Ev.bind h2 (ev_neg (by simp) no2)⟩
 rw [hv] at h1 h2
 have h12i : items.length ≤ 12 := by
  unfold itemsOk at hv
  split at hv
  ·have := of_decide_eq_true hv
   omega
  ·cases hv
 by_cases cb : (boxes.length : Int) > 12
 ·refine ⟨[], [], false, by simp, by simp, ev_some (ev_some (Ev.bind h1 (ev_pos rfl ?_))), Ev.bind h2 (ev_pos rfl (ev_pos cb no2))⟩
  rw [decide_eq_true cb]
  exact no1
 have hb : boxes.length ≤ 12 := by omega
 have hs := specBoxes_ev hl hb hi boxes.length 0 [] (by omega) (by simp)
 rw [List.drop_zero] at hs
 have hspec : ∀ y, Ev (fun k => spec_MissingNumbers.l0 k items boxes [] [] ((0 : Nat) : Int)) y → Ev (fun k => spec_MissingNumbers.f k items boxes) y := by
  intro y h
  refine ev_some (ev_some (Ev.bind h1 (ev_pos rfl ?_)))
  rw [decide_eq_false cb]
  refine Ev.step (fun k => rfl) ?_
  simp only [spec_MissingNumbers.j0]
  exact ev_neg (by simp) h
 have hcont : ∀ y, Ev (fun k => impl_MissingNumbers.j0 k items boxes (tooMuch boxes)) y → Ev (fun k => impl_MissingNumbers.f k items boxes) y := by
  intro y h
  exact Ev.bind h2 (ev_pos rfl (ev_neg cb (ev_some h)))
 cases ht : tooMuch boxes
 ·rw [ht, if_neg (by simp)] at hs
  rw [ht] at hcont
  have h12 : ∀ b ∈ boxes, b.f1.length ≤ 12 := by
   intro b hb'
   unfold tooMuch at ht
   have := (List.any_eq_false.1 ht) b hb'
   simp at this
   omega
  have hib := implBoxes_ev hl hb hi h12 (missL boxes items) boxes.length 0 [] (by omega) (by simp)
  rw [List.drop_zero, List.nil_append] at hib
  have him := implMiss_ev hl hb hi (y := (missL boxes items, putAllL (oddL items (allL boxes)), true)) items.length 0 [] (by omega) (by simp) (by rw [List.drop_zero, List.nil_append]; exact hib)
  rw [stepS_fold] at hs
  have hm : (missL boxes items).length ≤ 1000 := by
   unfold missL
   rw [List.length_map]
   have := List.length_filter_le (fun x : Item => !held boxes x.f0) items
   omega
  have hall : ∀ (L : List Box), (∀ b ∈ L, b.f1.length ≤ 12) → (allL L).length ≤ 12 * L.length := by
   intro L
   induction L with
   | nil => intro _; simp [allL]
   | cons b L ih =>
    intro h
    have h1 := ih (fun b' hb' => h b' (List.mem_cons_of_mem _ hb'))
    have h2 := h b List.mem_cons_self
    rw [show allL (b :: L) = b.f1 ++ allL L from rfl, List.length_append, List.length_cons]
    omega
  have hp : (putAllL (oddL items (allL boxes))).length ≤ 1000 := by
   have h1 := stepS_len items (allL boxes) []
   rw [stepS_fold] at h1
   have h2 := hall boxes h12
   have h3 : (putAllL (oddL items (allL boxes))).length ≤ ([] : List Int).length + (allL boxes).length := h1
   rw [List.length_nil] at h3
   omega
  refine ⟨missL boxes items, putAllL (oddL items (allL boxes)), true, hm, hp, hspec _ hs, hcont _ ?_⟩
  refine Ev.step (fun k => rfl) ?_
  simp only [impl_MissingNumbers.j0]
  exact ev_neg (by simp) him
 ·rw [ht, if_pos rfl] at hs
  rw [ht] at hcont
  exact ⟨[], [], false, by simp, by simp, hspec _ hs, hcont _ no2⟩
end Go.Proofs.Ytdbhelhoaciodaa.X
namespace Go.Proofs.Ytdbhelhoaciodaa.X
open Go.RowKit Go.Proofs.YtdbhelhoaciodaaW.PrintWords Go.Proofs.YtdbhelhoaciodaaW.PrintLast Go.Proofs.YtdbhelhoaciodaaW.PrintMore
attribute [local go_sem] max2_int min2_int max_two min_two max_three min_three max_four min_four
set_option linter.unusedVariables false
set_option linter.unusedSimpArgs false
attribute [-simp] ByteArray.size_append ByteArray.size_extract
attribute [-go_sem] ByteArray.size_append'
/-! ### laws_markText: function 95 -/
def laws_markText.l0 : Nat → Int → ByteArray → Option (ByteArray)
 | 0, _, _ => none
 | k + 1, x0, x3 => if x0 > 0 then ((some (([(wrap64 (48 + (Int.tmod x0 10))) % 256] : List Int) : List Int)).bind fun y101 => (if (strOfNums y101).size + x3.size ≤ 9223372036854775807 then (laws_markText.l0 k (wrap64 (Int.tdiv x0 10)) ((strOfNums y101) ++ x3)) else (none))) else (if 1 + x3.size ≤ 9223372036854775807 then (some ((⟨#[109]⟩ : ByteArray) ++ x3)) else (none))
def laws_markText.f (k : Nat) (a0 : Int) : Option (ByteArray) := if a0 ≤ 0 then (some (⟨#[109, 48]⟩ : ByteArray)) else (laws_markText.l0 k a0 (⟨#[]⟩ : ByteArray))
set_option maxHeartbeats 8000000 in
set_option maxRecDepth 100000 in
theorem laws_markText.calls (k : Nat) (a0 : Int) (r : ByteArray) (w : World) (h : laws_markText.f k a0 = some r) :
  Calls Try.prog 95 #[.int .i64 a0] w fun e w' => e = .returned (.string r) ∧ Below w.heap.size w w' := by
 (have HB := Aside0.mk (Below.refl w.heap.size w)); (unfold laws_markText.f at h); (have H := h); clear h; (by_cases c2 : a0 ≤ 0); (· (rw [if_pos c2] at H); (have c2b0 := decide_eq_true c2); clear c2; (obtain rfl := Option.some.inj H); (go_enter Try.func95, Try.ntmps95); (go_wp2); go_ret; (exact Q13))
 ·rw [if_neg c2] at H
  (have c2b0 := decide_eq_false c2); clear c2; (have H' := Aside0.mk H); clear H; (go_enter Try.func95, Try.ntmps95); (go_wp2); (go_loopg [0, 3] k (fun kq v0 v3 w' => ∃ (x0_1 : Int) (x3_1 : ByteArray), v0 = .int .i64 x0_1 ∧ v3 = .string x3_1 ∧ Aside0 (laws_markText.l0 kq x0_1 x3_1 = some r) ∧ Aside0 (kq ≤ k) ∧ Aside0 (Below w.heap.size w w')))
  case atStart => exact ⟨(a0), ((⟨#[]⟩ : ByteArray)), Q16, Q16, H', ⟨Nat.le_refl _⟩, ⟨eI HB⟩⟩
  case round =>
   (clear H'); (try clear c2); (try clear c2b0); (try clear p2); (obtain ⟨x0_1, x3_1, rfl, rfl, HA, HK1, HB⟩ := hrel)
   cases gk with
   | zero => exact absurd HA.out (by simp [laws_markText.l0])
   | succ k1 =>
    (have H := HA.out); clear HA; (simp only [laws_markText.l0] at H); (by_cases c3 : x0_1 > 0)
    ·rw [if_pos c3] at H
     (have c3b0 : decide (0 < x0_1) = true := decide_eq_true c3); clear c3; (obtain ⟨y101, hy101⟩ : ∃ y_ : List Int, y_ = (([(wrap64 (48 + (Int.tmod x0_1 10))) % 256] : List Int)) := ⟨_, rfl⟩); (replace H : (if (strOfNums y101).size + x3_1.size ≤ 9223372036854775807 then (laws_markText.l0 k1 (wrap64 (Int.tdiv x0_1 10)) ((strOfNums y101) ++ x3_1)) else (none)) = some r := Q59); (have Ny101 := Aside0.mk hy101); clear hy101; (by_cases c4 : (strOfNums y101).size + x3_1.size ≤ 9223372036854775807)
     ·rw [if_pos c4] at H
      (have c4b0 := eq_true c4); (have c4b1 := decide_eq_true c4); (try have c4b2 : (9223372036854775807 < (strOfNums y101).size + x3_1.size) = False := eq_false (Nat.not_lt.2 c4)); (have H' := Aside0.mk H); clear H; (go_wp2_with (first | ((with_reducible refine gate_dst (N := 12) rfl ?_); refine Kd.R_lit (Kd.int .u8) _ 5 ?hg (N := 12) ?hd (xs := ([(wrap64 (48 + (Int.tmod x0_1 10))) % 256] : List Int)) (inner := [.int .u8 ((wrap64 (48 + (Int.tmod x0_1 10))) % 256)]) (ok := fun _ => True) (okp := fun _ => True) ?hr ?hp (fun _ hk => hk) trivial (Below.refl _ _) (Nat.le_refl _) (by simp) ?_; (case hd => rfl); (case hg => rfl); (case hr => first | (go_simp; done) | (go_simp; rfl)); (case hp => exact (Reps.one (show Kd.M (Kd.int .u8) _ _ _ ((wrap64 (48 + (Int.tmod x0_1 10))) % 256) [.int .u8 ((wrap64 (48 + (Int.tmod x0_1 10))) % 256)] from rfl) (Reps.none _ _))); intro v102 w5 ho6 hb hg_ hnew_; clear hg_ hnew_; (first | rw [← Ny101.out] at ho6 | (simp only [Int.reduceToNat] at ho6; rw [← Ny101.out] at ho6)); have hB_ := zI hb HB; have n0_ := Aside0.mk (Kd.R_lower ho6 (below_size hB_)); have n1_ := Aside0.mk (below_step hB_ hb); clear HB; have HO103 := n0_; have HB := n1_; clear n0_ n1_ hB_ hb ho6; have hcv7 := own_string (P := Try.prog) Try.underlying150 Try.underlying5 Try.underlying9 (Kd.own_of_R HO103.out)))); go_roundg k1
      case measure => have := HK1.out; omega
      case rel => exact ⟨(wrap64 (Int.tdiv x0_1 10)), ((strOfNums y101) ++ x3_1), Q16, Q16, H', ⟨Q20⟩, ⟨eI HB⟩⟩
     ·rw [if_neg c4] at H
      exact Q11
    ·rw [if_neg c3] at H
     (have c3b0 : decide (0 < x0_1) = false := decide_eq_false c3); clear c3; (by_cases c8 : 1 + x3_1.size ≤ 9223372036854775807); (· (rw [if_pos c8] at H); (have c8b0 := eq_true c8); (have c8b1 := decide_eq_true c8); (try have c8b2 : (9223372036854775807 < 1 + x3_1.size) = False := eq_false (Nat.not_lt.2 c8)); (obtain rfl := Option.some.inj H); (go_wp2); go_ret; (exact Q13)); (· (rw [if_neg c8] at H); (exact Q11))
end Go.Proofs.Ytdbhelhoaciodaa.X
set_option linter.unusedVariables false
set_option linter.unusedSimpArgs false
namespace Go.Proofs.Ytdbhelhoaciodaa.X
open Go.RowKit Go.Proofs.YtdbhelhoaciodaaW.PrintWords Go.Proofs.Ytdbhelhoaciodaa.E
end Go.Proofs.Ytdbhelhoaciodaa.X
set_option linter.unusedVariables false
set_option linter.unusedSimpArgs false
namespace Go.Proofs.Ytdbhelhoaciodaa.X
open Go.RowKit Go.Proofs.YtdbhelhoaciodaaW.PrintWords Go.Proofs.Ytdbhelhoaciodaa.E
def mkIt (q : Int) (_ : S83) : S83 := ⟨q, q + 1, q + 2⟩
theorem sum3 {α : Type} (L : List α) : (L.map (fun _ => 3)).sum = 3 * L.length := by
 induction L with
 | nil => rfl
 | cons e L ih => rw [List.map_cons, List.sum_cons, ih, List.length_cons]; omega
theorem markItem (L : List S83) (q : Int) (h0 : 0 ≤ q) (hq : q + 3 * L.length ≤ 4611686018427387904) : Ev (fun k => laws_markItemS.f k L q) (q + (3 * L.length : Nat), markAll mkIt (fun _ => 3) q L) := by
 have h := ev_mark (L := fun k l q i => laws_markItemS.l0 k l q i) L mkIt (fun _ => 3) (fun out q ho => Ev.step (fun k => rfl) (ev_neg (by omega) (ev_now rfl))) ?hs q h0 (by rw [sum3]; omega)
 case hs =>
  intro out q i x y hi ho hx hxm hg h0 hb h
  have hw1 : wrap64 (q + 1) = q + 1 := wrap_id (by omega) (by omega)
  have hw2 : wrap64 (q + 1 + 1) = q + 2 := by rw [wrap_id (by omega) (by omega)]; omega
  have hw3 : wrap64 (q + 2 + 1) = q + (3 : Nat) := by rw [wrap_id (by omega) (by omega)]; omega
  have hr : ∀ a, rd_T83 (out.set i a) (i : Int) = a := by
   intro a
   unfold rd_T83
   rw [Int.toNat_natCast, List.getD_eq_getElem?_getD, List.getElem?_set_self (by omega)]
   rfl
  refine Ev.step (fun k => rfl) (ev_pos (by omega) (ev_pos (by omega) (ev_some (ev_some ?_))))
  simp only [Int.toNat_natCast, List.set_set, hr, hw1, hw2, hw3]
  rw [wrap_succ hi (by omega)]
  exact h
 rw [sum3] at h
 exact h
end Go.Proofs.Ytdbhelhoaciodaa.X
set_option linter.unusedVariables false
set_option linter.unusedSimpArgs false
namespace Go.Proofs.Ytdbhelhoaciodaa.X
open Go.RowKit Go.Proofs.YtdbhelhoaciodaaW.PrintWords Go.Proofs.Ytdbhelhoaciodaa.E
def mkI (q : Int) (_ : Int) : Int := q
theorem sum1i {α : Type} (L : List α) : (L.map (fun _ => 1)).sum = L.length := by
 induction L with
 | nil => rfl
 | cons e L ih => rw [List.map_cons, List.sum_cons, ih, List.length_cons]; omega
theorem markInt (L : List Int) (q : Int) (h0 : 0 ≤ q) (hq : q + L.length ≤ 4611686018427387904) : Ev (fun k => laws_markIntS.f k L q) (q + (L.length : Nat), markAll mkI (fun _ => 1) q L) := by
 have h := ev_mark (L := fun k l q i => laws_markIntS.l0 k l q i) L mkI (fun _ => 1) (fun out q ho => Ev.step (fun k => rfl) (ev_neg (by omega) (ev_now rfl))) ?hs q h0 (by rw [sum1i]; omega)
 case hs =>
  intro out q i x y hi ho hx hxm hg h0 hb h
  have hw1 : wrap64 (q + 1) = q + (1 : Nat) := by rw [wrap_id (by omega) (by omega)]; omega
  refine Ev.step (fun k => rfl) (ev_pos (by omega) (ev_pos (by omega) ?_))
  rw [hw1, wrap_succ hi (by omega), Int.toNat_natCast]
  exact h
 rw [sum1i] at h
 exact h
theorem heldInt (L : List Int) (q0 : Int) (h0 : 0 ≤ q0) (hq : q0 + L.length ≤ 4611686018427387904) : Ev (fun k => laws_heldIntS.f k (markAll mkI (fun _ => 1) q0 L) q0) (q0 + (L.length : Nat)) := by
 have hlen := markAll_length mkI (fun _ => 1) L q0
 have h := ev_held (H := fun k q i => laws_heldIntS.l0 k (markAll mkI (fun _ => 1) q0 L) q i) L (markAll mkI (fun _ => 1) q0 L) mkI (fun _ => 1) q0 rfl (fun q => Ev.step (fun k => rfl) (ev_neg (by omega) (ev_now rfl))) ?hs h0 (by rw [sum1i]; omega)
 case hs =>
  intro q i x y hi hxm hx hg h0 hb h
  have hw1 : wrap64 (q + 1) = q + (1 : Nat) := by rw [wrap_id (by omega) (by omega)]; omega
  have hr : rd (markAll mkI (fun _ => 1) q0 L) (i : Int) = q := by unfold rd; rw [Int.toNat_natCast]; exact hg _
  refine Ev.step (fun k => rfl) (ev_pos (by omega) (ev_pos (by omega) (ev_pos hr ?_)))
  rw [hw1, wrap_succ hi (by omega)]
  exact h
 rw [sum1i] at h
 exact h
end Go.Proofs.Ytdbhelhoaciodaa.X
set_option linter.unusedVariables false
set_option linter.unusedSimpArgs false
namespace Go.Proofs.Ytdbhelhoaciodaa.X
open Go.RowKit Go.Proofs.YtdbhelhoaciodaaW.PrintWords Go.Proofs.Ytdbhelhoaciodaa.E
def mkB (q : Int) (x : S80) : S80 := ⟨q, markAll mkI (fun _ => 1) (q + 1) x.f1⟩
def wB (x : S80) : Nat := 1 + x.f1.length
theorem wB_len (L : List S80) : L.length ≤ (L.map wB).sum := by
 induction L with
 | nil => exact Nat.le_refl _
 | cons e L ih => rw [List.map_cons, List.sum_cons, List.length_cons]; unfold wB at *; omega
theorem markBox (L : List S80) (q : Int) (h0 : 0 ≤ q) (hq : q + (((L.map wB).sum : Nat) : Int) ≤ 4611686018427387904) : Ev (fun k => laws_markArchiveBoxS.f k L q) (q + (((L.map wB).sum : Nat) : Int), markAll mkB wB q L) := by
 refine ev_mark (L := fun k l q i => laws_markArchiveBoxS.l0 k l q i) L mkB wB (fun out q ho => Ev.step (fun k => rfl) (ev_neg (by omega) (ev_now rfl))) ?hs q h0 (by omega)
 case hs =>
  intro out q i x y hi ho hx hxm hg h0 hb h
  have hc : (wB x : Int) = 1 + (x.f1.length : Int) := by unfold wB; omega
  have hle : wB x ≤ (L.map wB).sum := le_sum hxm
  have hll := wB_len L
  have e1 : wrap64 (q + 1) = q + 1 := wrap_id (by omega) (by omega)
  have hrd : rd_T80 out (i : Int) = x := by unfold rd_T80; rw [Int.toNat_natCast]; exact hg _
  refine Ev.step (fun k => rfl) (ev_pos (by omega) (ev_pos (by omega) ?_))
  simp only [e1, hrd]
  refine Ev.bind (markInt x.f1 (q + 1) (by omega) (by omega)) ?_
  have e3 : q + 1 + ((x.f1.length : Nat) : Int) = q + (wB x : Int) := by omega
  simp only [e3]
  rw [wrap_succ hi (by omega), Int.toNat_natCast]
  exact h
end Go.Proofs.Ytdbhelhoaciodaa.X
set_option linter.unusedVariables false
namespace Go.Proofs.Ytdbhelhoaciodaa.X
open Go.RowKit Go.Proofs.YtdbhelhoaciodaaW.PrintWords Go.Proofs.Ytdbhelhoaciodaa.E
def wt78 (x : S78) : Nat := x.f1.length
end Go.Proofs.Ytdbhelhoaciodaa.X
set_option linter.unusedVariables false
namespace Go.Proofs.Ytdbhelhoaciodaa.X
open Go.RowKit Go.Proofs.YtdbhelhoaciodaaW.PrintWords Go.Proofs.Ytdbhelhoaciodaa.E
theorem laws_szItemS_ev (x : List (S85)) (g0 : x.length ≤ 9223372036854775807) (left : Int) (h0 : 0 ≤ left) (h1 : left ≤ 4611686018427387904) :
  Ev (fun k => laws_szItemS.f x left) (if ((x.length : Nat) : Int) ≤ left then left - ((x.length : Nat) : Int) else -1) := by
 unfold laws_szItemS.f
 have e0 : wrap64 (left - ((x.length : Nat) : Int)) = left - ((x.length : Nat) : Int) := wrap_id (by omega) (by omega)
 simp only [e0]
 by_cases c : ((x.length : Nat) : Int) ≤ left
 case neg => exact ev_pos (by omega) (ev_now (by first | rfl | rw [if_neg (by omega)]))
 refine ev_neg (by omega) ?_
 exact ev_now (by first | rfl | rw [if_pos (by omega)])
end Go.Proofs.Ytdbhelhoaciodaa.X
set_option linter.unusedVariables false
namespace Go.Proofs.Ytdbhelhoaciodaa.X
open Go.RowKit Go.Proofs.YtdbhelhoaciodaaW.PrintWords Go.Proofs.Ytdbhelhoaciodaa.E
theorem laws_szIntS_ev (x : List (Int)) (g0 : x.length ≤ 9223372036854775807) (left : Int) (h0 : 0 ≤ left) (h1 : left ≤ 4611686018427387904) :
  Ev (fun k => laws_szIntS.f x left) (if ((x.length : Nat) : Int) ≤ left then left - ((x.length : Nat) : Int) else -1) := by
 unfold laws_szIntS.f
 have e0 : wrap64 (left - ((x.length : Nat) : Int)) = left - ((x.length : Nat) : Int) := wrap_id (by omega) (by omega)
 simp only [e0]
 by_cases c : ((x.length : Nat) : Int) ≤ left
 case neg => exact ev_pos (by omega) (ev_now (by first | rfl | rw [if_neg (by omega)]))
 refine ev_neg (by omega) ?_
 exact ev_now (by first | rfl | rw [if_pos (by omega)])
end Go.Proofs.Ytdbhelhoaciodaa.X
set_option linter.unusedVariables false
namespace Go.Proofs.Ytdbhelhoaciodaa.X
open Go.RowKit Go.Proofs.YtdbhelhoaciodaaW.PrintWords Go.Proofs.Ytdbhelhoaciodaa.E
theorem laws_szArchiveBox_ev (x : S78) (g0 : x.f1.length ≤ 9223372036854775807) (left : Int) (h0 : 0 ≤ left) (h1 : left ≤ 4611686018427387904) :
  Ev (fun k => laws_szArchiveBox.f (x.f0) (x.f1) left) (if (((wt78 x) : Nat) : Int) ≤ left then left - (((wt78 x) : Nat) : Int) else -1) := by
 unfold laws_szArchiveBox.f
 unfold wt78
 refine Ev.bind (laws_szIntS_ev _ (by assumption) _ (by omega) (by omega)) ?_
 by_cases c1 : ((x.f1.length : Nat) : Int) ≤ left
 case neg =>
  rw [if_neg c1]
  exact ev_pos (by omega) (ev_now (by first | rfl | rw [if_neg (by omega)]))
 rw [if_pos c1]
 refine ev_neg (by omega) ?_
 exact ev_now (by first | rfl | omega | (rw [if_pos (by omega)]; omega))
end Go.Proofs.Ytdbhelhoaciodaa.X
set_option linter.unusedVariables false
namespace Go.Proofs.Ytdbhelhoaciodaa.X
open Go.RowKit Go.Proofs.YtdbhelhoaciodaaW.PrintWords Go.Proofs.Ytdbhelhoaciodaa.E
theorem laws_szArchiveBoxS_ev (x : List (S78)) (g0 : x.length ≤ 9223372036854775807) (g1 : ∀ y ∈ x, (y.f1.length ≤ 9223372036854775807)) (left : Int) (h0 : 0 ≤ left) (h1 : left ≤ 4611686018427387904) :
  Ev (fun k => laws_szArchiveBoxS.f k x left) (if (((x.length + (x.map (fun y => (wt78 y))).sum) : Nat) : Int) ≤ left then left - (((x.length + (x.map (fun y => (wt78 y))).sum) : Nat) : Int) else -1) := by
 unfold laws_szArchiveBoxS.f
 have e0 : wrap64 (left - ((x.length : Nat) : Int)) = left - ((x.length : Nat) : Int) := wrap_id (by omega) (by omega)
 simp only [e0]
 by_cases c : ((x.length : Nat) : Int) ≤ left
 case neg => exact ev_pos (by omega) (ev_now (by first | rfl | rw [if_neg (by omega)]))
 refine ev_neg (by omega) ?_
 have h := ev_sz (L := fun k l i => laws_szArchiveBoxS.l0 k x l i) x (fun y => (wt78 y)) (fun l => Ev.step (fun k => rfl) (ev_neg (by omega) (ev_now rfl))) ?step (left - ((x.length : Nat) : Int)) (by omega) (by omega)
 case step =>
  intro l i y r l0 l1 hi hm hd hy hn
  refine Ev.step (fun k => rfl) (ev_pos (by omega) (ev_pos (by omega) ?_))
  simp only [rd_T78, Int.toNat_natCast, hd]
  have hg := g1 y hm
  refine Ev.bind (laws_szArchiveBox_ev y (by assumption) l l0 l1) ?_
  by_cases c1 : (((wt78 y) : Nat) : Int) ≤ l
  case neg => rw [if_neg c1]; exact ev_pos (by omega) (ev_now (hn c1).symm)
  rw [if_pos c1]
  refine ev_neg (by omega) ?_
  rw [wrap_succ hi (by omega)]
  exact hy c1
 refine ev_cast h ?_
 by_cases c2 : (((x.map (fun y => (wt78 y))).sum : Nat) : Int) ≤ left - ((x.length : Nat) : Int)
 ·rw [if_pos c2, if_pos (by omega)]; omega
 ·rw [if_neg c2, if_neg (by omega)]
end Go.Proofs.Ytdbhelhoaciodaa.X
set_option linter.unusedVariables false
namespace Go.Proofs.Ytdbhelhoaciodaa.X
open Go.RowKit Go.Proofs.YtdbhelhoaciodaaW.PrintWords Go.Proofs.Ytdbhelhoaciodaa.E
def conv85 (x : S85) : S83 := ⟨x.f0, x.f1, x.f2⟩
theorem laws_toItem_ev (x : S85) : Ev (fun k => laws_toItem.f (x.f0) (x.f1) (x.f2)) ((conv85 x).f0, (conv85 x).f1, (conv85 x).f2) := by
 unfold laws_toItem.f
 exact ev_now rfl
end Go.Proofs.Ytdbhelhoaciodaa.X
set_option linter.unusedVariables false
namespace Go.Proofs.Ytdbhelhoaciodaa.X
open Go.RowKit Go.Proofs.YtdbhelhoaciodaaW.PrintWords Go.Proofs.Ytdbhelhoaciodaa.E
theorem laws_toItemS_ev (x : List (S85)) (hb : x.length ≤ 1048576) : Ev (fun k => laws_toItemS.f k x) (x.map conv85) := by
 unfold laws_toItemS.f
 refine ev_pos (by omega) (ev_pos (by simp only [Int.toNat_natCast]; omega) ?_)
 simp only [Int.toNat_natCast]
 refine ev_fill (L := fun k o i => laws_toItemS.l0 k x o i) x conv85 _ (fun o => Ev.step (fun k => rfl) (ev_neg (by omega) (ev_now rfl))) ?_
 intro o i y r hi hx hd hl hk
 refine Ev.step (fun k => rfl) (ev_pos (by omega) (ev_pos (by omega) ?_))
 simp only [rd_T85, Int.toNat_natCast, hd]
 refine Ev.bind (laws_toItem_ev y) ?_
 refine ev_pos (by omega) ?_
 rw [wrap_succ hi (by omega)]
 exact hk
end Go.Proofs.Ytdbhelhoaciodaa.X
set_option linter.unusedVariables false
namespace Go.Proofs.Ytdbhelhoaciodaa.X
open Go.RowKit Go.Proofs.YtdbhelhoaciodaaW.PrintWords Go.Proofs.Ytdbhelhoaciodaa.E
theorem laws_toIntS_ev (x : List (Int)) (hb : x.length ≤ 1048576) : Ev (fun k => laws_toIntS.f k x) (x) := by
 unfold laws_toIntS.f
 refine ev_pos (by omega) (ev_pos (by simp only [Int.toNat_natCast]; omega) ?_)
 simp only [Int.toNat_natCast]
 refine ev_cast (r := x.map id) ?_ (List.map_id x)
 refine ev_fill (L := fun k o i => laws_toIntS.l0 k x o i) x id _ (fun o => Ev.step (fun k => rfl) (ev_neg (by omega) (ev_now rfl))) ?_
 intro o i y r hi hx hd hl hk
 refine Ev.step (fun k => rfl) (ev_pos (by omega) (ev_pos (by omega) ?_))
 simp only [rd, Int.toNat_natCast, hd]
 refine ev_pos (by omega) ?_
 rw [wrap_succ hi (by omega)]
 exact hk
end Go.Proofs.Ytdbhelhoaciodaa.X
set_option linter.unusedVariables false
namespace Go.Proofs.Ytdbhelhoaciodaa.X
open Go.RowKit Go.Proofs.YtdbhelhoaciodaaW.PrintWords Go.Proofs.Ytdbhelhoaciodaa.E
def conv78 (x : S78) : S80 := ⟨x.f0, x.f1⟩
theorem laws_toArchiveBox_ev (x : S78) (hb : (wt78 x) ≤ 1048576) : Ev (fun k => laws_toArchiveBox.f k (x.f0) (x.f1)) ((conv78 x).f0, (conv78 x).f1) := by
 unfold laws_toArchiveBox.f
 unfold wt78 at hb
 refine Ev.bind (laws_toIntS_ev x.f1 (by omega)) ?_
 exact ev_now rfl
end Go.Proofs.Ytdbhelhoaciodaa.X
set_option linter.unusedVariables false
namespace Go.Proofs.Ytdbhelhoaciodaa.X
open Go.RowKit Go.Proofs.YtdbhelhoaciodaaW.PrintWords Go.Proofs.Ytdbhelhoaciodaa.E
theorem laws_toArchiveBoxS_ev (x : List (S78)) (hb : (x.length + (x.map (fun y => (wt78 y))).sum) ≤ 1048576) : Ev (fun k => laws_toArchiveBoxS.f k x) (x.map conv78) := by
 unfold laws_toArchiveBoxS.f
 refine ev_pos (by omega) (ev_pos (by simp only [Int.toNat_natCast]; omega) ?_)
 simp only [Int.toNat_natCast]
 refine ev_fill (L := fun k o i => laws_toArchiveBoxS.l0 k x o i) x conv78 _ (fun o => Ev.step (fun k => rfl) (ev_neg (by omega) (ev_now rfl))) ?_
 intro o i y r hi hx hd hl hk
 refine Ev.step (fun k => rfl) (ev_pos (by omega) (ev_pos (by omega) ?_))
 simp only [rd_T78, Int.toNat_natCast, hd]
 have hq := le_sum (f := fun y => (wt78 y)) (List.mem_of_getElem? hx)
 refine Ev.bind (laws_toArchiveBox_ev y (by omega)) ?_
 refine ev_pos (by omega) ?_
 rw [wrap_succ hi (by omega)]
 exact hk
end Go.Proofs.Ytdbhelhoaciodaa.X
set_option linter.unusedVariables false
namespace Go.Proofs.Ytdbhelhoaciodaa.X
open Go.RowKit Go.Proofs.YtdbhelhoaciodaaW.PrintWords Go.Proofs.Ytdbhelhoaciodaa.E
theorem laws_eqItem_ev (x : S83) : Ev (fun k => laws_eqItem.f (x.f0) (x.f1) (x.f2) (x.f0) (x.f1) (x.f2)) true := by
 unfold laws_eqItem.f
 repeat' (first | exact ev_now rfl | refine ev_pos rfl ?_ | refine ev_neg (by simp) ?_)
end Go.Proofs.Ytdbhelhoaciodaa.X
set_option linter.unusedVariables false
namespace Go.Proofs.Ytdbhelhoaciodaa.X
open Go.RowKit Go.Proofs.YtdbhelhoaciodaaW.PrintWords Go.Proofs.Ytdbhelhoaciodaa.E
theorem laws_eqItemS_ev (x : List (S83)) (hl0 : x.length ≤ 9223372036854775807) : Ev (fun k => laws_eqItemS.f k x x) true := by
 unfold laws_eqItemS.f
 refine ev_pos rfl ?_
 refine ev_same (L := fun k i => laws_eqItemS.l0 k x x i) x.length (Ev.step (fun k => rfl) (ev_neg (by omega) (ev_now rfl))) ?_
 intro i hi hk
 refine Ev.step (fun k => rfl) (ev_pos (by omega) (ev_pos (by omega) (ev_pos (by omega) ?_)))
 refine Ev.bind (laws_eqItem_ev _) ?_
 refine ev_pos rfl ?_
 rw [wrap_succ hi (by omega)]
 exact hk
end Go.Proofs.Ytdbhelhoaciodaa.X
set_option linter.unusedVariables false
namespace Go.Proofs.Ytdbhelhoaciodaa.X
open Go.RowKit Go.Proofs.YtdbhelhoaciodaaW.PrintWords Go.Proofs.Ytdbhelhoaciodaa.E
theorem laws_eqIntS_ev (x : List (Int)) (hl0 : x.length ≤ 9223372036854775807) : Ev (fun k => laws_eqIntS.f k x x) true := by
 unfold laws_eqIntS.f
 refine ev_pos rfl ?_
 refine ev_same (L := fun k i => laws_eqIntS.l0 k x x i) x.length (Ev.step (fun k => rfl) (ev_neg (by omega) (ev_now rfl))) ?_
 intro i hi hk
 refine Ev.step (fun k => rfl) (ev_pos (by omega) (ev_pos (by omega) (ev_pos (by omega) ?_)))
 refine ev_pos rfl ?_
 rw [wrap_succ hi (by omega)]
 exact hk
end Go.Proofs.Ytdbhelhoaciodaa.X
set_option linter.unusedVariables false
namespace Go.Proofs.Ytdbhelhoaciodaa.X
open Go.RowKit Go.Proofs.YtdbhelhoaciodaaW.PrintWords Go.Proofs.Ytdbhelhoaciodaa.E
theorem laws_eqArchiveBox_ev (x : S80) (hl0 : x.f1.length ≤ 9223372036854775807) : Ev (fun k => laws_eqArchiveBox.f k (x.f0) (x.f1) (x.f0) (x.f1)) true := by
 unfold laws_eqArchiveBox.f
 repeat' (first | exact ev_now rfl | refine ev_pos rfl ?_ | refine ev_neg (by simp) ?_ | refine Ev.bind (laws_eqIntS_ev _ (by assumption)) ?_)
end Go.Proofs.Ytdbhelhoaciodaa.X
set_option linter.unusedVariables false
namespace Go.Proofs.Ytdbhelhoaciodaa.X
open Go.RowKit Go.Proofs.YtdbhelhoaciodaaW.PrintWords Go.Proofs.Ytdbhelhoaciodaa.E
theorem laws_eqArchiveBoxS_ev (x : List (S80)) (hl0 : x.length ≤ 9223372036854775807) (hl1 : ∀ y ∈ x, (y.f1.length ≤ 9223372036854775807)) : Ev (fun k => laws_eqArchiveBoxS.f k x x) true := by
 unfold laws_eqArchiveBoxS.f
 refine ev_pos rfl ?_
 refine ev_same (L := fun k i => laws_eqArchiveBoxS.l0 k x x i) x.length (Ev.step (fun k => rfl) (ev_neg (by omega) (ev_now rfl))) ?_
 intro i hi hk
 refine Ev.step (fun k => rfl) (ev_pos (by omega) (ev_pos (by omega) (ev_pos (by omega) ?_)))
 have hy := hl1 _ (List.getElem_mem hi)
 have hr : rd_T80 x (i : Int) = x[i] := by simp [rd_T80, List.getD_eq_getElem?_getD, List.getElem?_eq_getElem hi]
 rw [hr]
 refine Ev.bind (laws_eqArchiveBox_ev _ (by first | exact hy | exact hy)) ?_
 refine ev_pos rfl ?_
 rw [wrap_succ hi (by omega)]
 exact hk
end Go.Proofs.Ytdbhelhoaciodaa.X
set_option linter.unusedVariables false
set_option linter.unusedSimpArgs false
namespace Go.Proofs.Ytdbhelhoaciodaa.Pure
open Go.RowKit Go.Proofs.Ytdbhelhoaciodaa.X Go.Proofs.YtdbhelhoaciodaaW.PrintWords Go.Proofs.Ytdbhelhoaciodaa.E
theorem sum_box (bs : List S78) : ((bs.map conv78).map wB).sum = bs.length + (bs.map (fun y => wt78 y)).sum := by
 induction bs with
 | nil => rfl
 | cons y l ih =>
  rw [List.map_cons, List.map_cons, List.sum_cons, List.map_cons, List.sum_cons, List.length_cons, ih]
  have h1 : wB (conv78 y) = 1 + y.f1.length := rfl
  have h2 : wt78 y = y.f1.length := rfl
  omega
theorem one_box {bs : List S78} {y : S78} (h : y ∈ bs) : y.f1.length ≤ (bs.map (fun y => wt78 y)).sum := le_sum (f := fun y : S78 => wt78 y) h
theorem FnExactMissingNumbers : PureFnExactMissingNumbers := by
 intro items bs hi hb
 unfold laws_FnExactMissingNumbers.f
 refine ev_get (Ev.bind (laws_szItemS_ev items hi.1 1048576 (by omega) (by omega)) ?_)
 by_cases c0 : ((items.length : Nat) : Int) ≤ 1048576
 case neg => rw [if_neg c0]; exact ev_pos (by omega) (ev_now rfl)
 rw [if_pos c0]
 refine ev_neg (by omega) (Ev.bind (laws_szArchiveBoxS_ev bs hb.1 (fun y hy => (hb.2 y hy).2.1) _ (by omega) (by omega)) ?_)
 by_cases c : (((bs.length + (bs.map (fun y => wt78 y)).sum : Nat)) : Int) ≤ 1048576 - ((items.length : Nat) : Int)
 case neg => rw [if_neg c]; exact ev_pos (by omega) (ev_now rfl)
 rw [if_pos c]
 refine ev_neg (by omega) ?_
 have hw6 : ∀ b ∈ bs.map conv78, b.f1.length ≤ 1048576 := by
  intro b hb'
  obtain ⟨y, hy, rfl⟩ := List.mem_map.1 hb'
  have := one_box hy
  show y.f1.length ≤ 1048576
  omega
 have hw : ∀ b ∈ bs.map conv78, b.f1.length ≤ 9223372036854775807 := fun b h => Nat.le_trans (hw6 b h) (by decide)
 have hll : (bs.map conv78).length = bs.length := List.length_map ..
 have hli : (items.map conv85).length = items.length := List.length_map ..
 have hto := laws_toArchiveBoxS_ev bs (by omega)
 have hti := laws_toItemS_ev items (by omega)
 obtain ⟨a, b, r, ha, hb2, g1, g2⟩ := miss_both (items.map conv85) (bs.map conv78) (by omega) (by omega) hw6
 have heI := laws_eqItemS_ev (items.map conv85) (by omega)
 have heB := laws_eqArchiveBoxS_ev (bs.map conv78) (by omega) hw
 have hea := laws_eqIntS_ev a (by omega)
 have heb := laws_eqIntS_ev b (by omega)
 have hs := sum_box bs
 have hm1 := markItem (items.map conv85) 1 (by omega) (by omega)
 have hm2 := markBox (bs.map conv78) (1 + ((3 * (items.map conv85).length : Nat) : Int)) (by omega) (by omega)
 have hm3 := markInt a 1 (by omega) (by omega)
 have hm4 := markInt b (1 + ((a.length : Nat) : Int)) (by omega) (by omega)
 have hh3 := heldInt a 1 (by omega) (by omega)
 have hh4 := heldInt b (1 + ((a.length : Nat) : Int)) (by omega) (by omega)
 refine Ev.bind hti (Ev.bind hto (Ev.bind g1 (Ev.bind hti (Ev.bind hto (Ev.bind g2 (Ev.bind hea (ev_pos rfl (Ev.bind heb (ev_pos rfl (ev_pos rfl ?_))))))))))
 refine Ev.bind hti (Ev.bind heI (ev_pos rfl (Ev.bind hto (Ev.bind heB (ev_pos rfl (Ev.bind hm1 (Ev.bind hm2 (ev_pos (by omega) ?_))))))))
 refine Ev.bind hea (ev_pos rfl (Ev.bind heb (ev_pos rfl (ev_pos rfl (Ev.bind hm3 (Ev.bind hm4 ?_))))))
 refine Ev.bind hh3 (ev_pos (by omega) (Ev.bind hh4 (ev_pos (by omega) (ev_pos rfl ?_))))
 refine Ev.bind hti (Ev.bind hto (Ev.bind g2 (Ev.bind hea (ev_pos rfl (Ev.bind heb (ev_pos rfl (ev_pos rfl ?_)))))))
 exact Ev.bind hh3 (ev_pos (by omega) (Ev.bind hh4 (ev_pos (by omega) (ev_pos rfl (ev_now rfl)))))
end Go.Proofs.Ytdbhelhoaciodaa.Pure
namespace Go.Proofs.Ytdbhelhoaciodaa.fnExactMissingNumbers
open Go.ChangeShapes Go.WideShapes Go.ChangeAt Go.RowKit Go.Joins Go.Proofs.YtdbhelhoaciodaaW.PrintWords Go.Proofs.Ytdbhelhoaciodaa.Open Go.Proofs.Ytdbhelhoaciodaa.X
open Go.ChangeMaps (open_string shut_string)
set_option linter.unusedVariables false
theorem own : ownKnob Try.prog.godebug = none := by kernel_rfl
theorem laidOut : laidOutB Try.prog = true := by kernel_rfl
set_option maxRecDepth 100000 in
theorem lifted (os : Os) (started : os.Started) (H : Type) (enc : TypeId × Value → H) :
  ReturnsInHanded {} Try.checked os 3 .any (Rows.fnExactMissingNumbersSpec.pre6 enc Try.prog Try.f3 Rows.fnExactMissingNumbersRow.domain false) (Rows.fnExactMissingNumbersSpec.post enc Try.prog Try.f3 false true false false) := by
 refine returnsInHanded_of_change_sized (C := Try.checked) own started (by kernel_rfl) Try.func3
  (ChangeSpec.witness6 (enc := enc) (C := Try.checked) false ⟨#[], #[.slice none 0 0, .slice none 0 0], []⟩ 8 (by kernel_rfl) (by kernel_rfl) (by kernel_rfl) (by kernel_rfl)) ?_
 intro W base args ds gs before hval0 hW hcnd hsz0 _
 have hval : ∀ (j : Nat) t v, Try.f3.params[j]? = some t → args[j]? = some v → Value.okWide Try.prog W .any base t v := hval0
 have hW' := hW
 obtain ⟨p, q, hA0, hV, rfl, hfz, hnd⟩ := hW
 have hA : DataW.TrodAll enc Try.prog W 0 (fun _ => true) true Try.f3.params.toList args.toList ds p := hA0
 rw [Try.params3] at hA hval
 obtain ⟨v0, vs0, d0, ds0, p0, q0, hargs, rfl, rfl, h0, r0⟩ := trodAll_cons hA
 obtain ⟨v1, vs1, d1, ds1, p1, q1, rfl, rfl, rfl, h1, r1⟩ := trodAll_cons r0
 obtain ⟨rfl, rfl, rfl⟩ := trodAll_nil r1
 obtain rfl : args = #[v0, v1] := by cases args; simp_all
 obtain ⟨rfl, rfl⟩ := trodVars_none hV
 have kk0 := h0
 have lt0 : ∀ x ∈ p0, x.block < W.heap.size := by obtain ⟨m, hm⟩ := kk0; exact DataW.trod_lt m _ _ _ hm
 obtain ⟨A0, c0, a0, rfl, hc0, hr0, g0⟩ := arg_slice op22 (okWide_slice Try.underlying22 (hval 0 22 v0 rfl rfl)) h0
 have kk1 := h1
 have lt1 : ∀ x ∈ p1, x.block < W.heap.size := by obtain ⟨m, hm⟩ := kk1; exact DataW.trod_lt m _ _ _ hm
 obtain ⟨A1, c1, a1, rfl, hc1, hr1, g1⟩ := arg_slice op23 (okWide_slice Try.underlying23 (hval 1 23 v1 rfl rfl)) h1
 clear hA0 hval0 hsz0
 obtain ⟨k, hk⟩ := Pure.FnExactMissingNumbers a0 a1 g0 g1
 refine (X.laws_FnExactMissingNumbers.calls k _ _ a0 _ _ a1 true W hr0 hc0 hr1 hc1 hk).mono ?_
 rintro e W' ⟨he, bel0⟩
 have bel : Below W.heap.size W W' := by first | exact bel0 | exact bel0.below
 subst he
 exact ⟨_, rfl, _, _, _, [], _, [], hW', trodAll_mk1 (shut_bool Try.underlying4 _), (trodAll_cons_mk (Below.trod laidOut (by kernel_rfl) (of_decide_eq_true (by kernel_rfl)) kk0 bel lt0) (trodAll_cons_mk (Below.trod laidOut (by kernel_rfl) (of_decide_eq_true (by kernel_rfl)) kk1 bel lt1) trodAll_mk0)), rfl, bel.frame _, fun h => by cases h⟩
theorem over : Rows.fnExactMissingNumbersRow.holds Try.pinned (OpenSpec.ofChange Rows.fnExactMissingNumbersSpec) :=
 OpenClaim.holds_of_wide 3 Try.f3 rfl rfl rfl rfl rfl rfl rfl ⟨rfl, rfl, rfl, rfl, rfl⟩ rfl rfl rfl rfl rfl (by kernel_rfl) Try.func3 (by kernel_rfl)
  (of_decide_eq_true (by kernel_rfl)) (by unfold Func.isWrapper; first | (rw [if_pos (by decide +kernel)]; kernel_rfl) | (rw [if_neg (by decide +kernel)]; exact ⟨rfl, rfl⟩))
  (fun os started H enc _ => lifted os started H enc)
theorem proved : Rows.FnExactMissingNumbersSaid := over
#print axioms proved
end Go.Proofs.Ytdbhelhoaciodaa.fnExactMissingNumbers
namespace Go.Proofs.Ytdbhelhoaciodaa
/-- The row, under a short name, for the claim. -/
theorem fnExactMissingNumbers_holds : Rows.FnExactMissingNumbersSaid := fnExactMissingNumbers.proved
end Go.Proofs.Ytdbhelhoaciodaa
