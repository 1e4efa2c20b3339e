/- For every text the law FnExactParseForm answers true. No condition beyond what a reading tells.
This file (part 6 of 6) holds what the proof needs: plain functions with rounds and contracts written by programs of this work over the translation, and the lemmas. -/
import Derived.Test.YtcjloeeomhiblaaDoorZFnExactParseForm2
import Derived.Test.YtcjloeeomhiblaaDoorZFnExactParseForm5
import Derived.Test.YtcjloeeomhiblaaDoorZFnExactParseForm3
import Derived.Test.YtcjloeeomhiblaaDoorZFnExactParseForm1
import Derived.ChangeArms
import Derived.DataReads
import Derived.Deep.Slices
import Derived.ChangeOld
import Derived.OpenShut
import Derived.Test.YtcjloeeomhiblaaDoorZFnExactParseForm4
import Derived.Lib.ItoaNum
import Derived.Lib.ItoaLen
import Derived.Lib.Join
import Derived.Lib.AtoiAllCases
import Derived.Lib.Strings
import Derived.Lib.SplitLaws
import Derived.Lib.IndexBytes
import Derived.Test.YtcjloeeomhiblaaDoorTie
import Derived.Test.YtcjloeeomhiblaaDoorCards
import Derived.Test.YtcjloeeomhiblaaDoorRows
import Derived.WalkKit
import Derived.ProofKit
import Derived.ShutString
import Derived.Below
import Derived.SizedLaws
import Derived.Lib.SmallJoins
import Derived.LaidMore
import Derived.Stop.Joined
import Derived.Stop.LaidErr
import Derived.Lib.LaidTab
import Derived.LaidSub
import Derived.Handed
import Derived.SevenTiedAt
import Derived.Lay
namespace Go.Proofs.YtcjloeeomhiblaaDoor.X
open Go.RowKit Go.Proofs.YtcjloeeomhiblaaDoorW.PrintWords Go.Proofs.YtcjloeeomhiblaaDoorW.PrintLast Go.Proofs.YtcjloeeomhiblaaDoorW.PrintMore
attribute [local go_sem] max2_int min2_int max_two min_two max_three min_three max_four min_four   -- for this text's walks alone
set_option linter.unusedVariables false
set_option linter.unusedSimpArgs false
attribute [-simp] ByteArray.size_append ByteArray.size_extract
attribute [-go_sem] ByteArray.size_append'

/-! ### laws_heldFieldS: function 8 -/
def laws_heldFieldS.l0 : Nat → List (S31) → Int → Int → Option (Int)
 | 0, _, _, _ => none
 | k + 1, x0, x1, x5 => if x5 < (x0.length : Int) then (if 0 ≤ x5 then ((laws_markText.f k x1).bind fun t102 => (if ((rd_T31 x0 x5).f0).toList = t102.toList then (if ((rd_T31 x0 x5).f1) = (wrap64 (x1 + 1)) then (if ((rd_T31 x0 x5).f2) = (wrap64 ((wrap64 (x1 + 1)) + 1)) then (if ((rd_T31 x0 x5).f3) = (wrap64 ((wrap64 ((wrap64 (x1 + 1)) + 1)) + 1)) then ((laws_heldStringS.f k ((rd_T31 x0 x5).f4) (wrap64 ((wrap64 ((wrap64 ((wrap64 (x1 + 1)) + 1)) + 1)) + 1))).bind fun t107 => (if t107 < 0 then (some (-1)) else (if (((rd_T31 x0 x5).f5) != ((Int.tmod t107 3) == 0)) = true then (some (-1)) else ((laws_markText.f k (wrap64 (t107 + 1))).bind fun t110 => (if ((rd_T31 x0 x5).f6).toList = t110.toList then (laws_heldFieldS.l0 k x0 (wrap64 ((wrap64 (t107 + 1)) + 1)) (wrap64 (x5 + 1))) else (some (-1))))))) else (some (-1))) else (some (-1))) else (some (-1))) else (some (-1)))) else (none)) else (some x1)
def laws_heldFieldS.f (k : Nat) (l0 : List (S31)) (a1 : Int) : Option (Int) := laws_heldFieldS.l0 k l0 a1 0
def laws_heldFieldS.T4 : Bool × List (List Nat × List Nat) := (true, [([], []), ([], []), ([0, 1], [0, 1]), ([2], [2]), ([3], [3]), ([], []), ([5], [5]), ([4, 6], [4, 6])])
def laws_heldFieldS.B4 : List Nat := [0, 0, 3, 7, 15, 0, 32, 127]
theorem laws_heldFieldS.tab4 : rtab .any (opsOf Tryd.f8 4) = laws_heldFieldS.T4 := by kernel_rfl
theorem laws_heldFieldS.bits4 : waitsOk laws_heldFieldS.T4.2 laws_heldFieldS.B4 = true := by kernel_rfl
def laws_heldFieldS.T22 : Bool × List (List Nat × List Nat) := (true, [([], []), ([], []), ([0, 1], [0, 1]), ([2], [2]), ([3], [3]), ([], []), ([5], [5]), ([4, 6], [4, 6])])
def laws_heldFieldS.B22 : List Nat := [0, 0, 3, 7, 15, 0, 32, 127]
theorem laws_heldFieldS.tab22 : rtab .any (opsOf Tryd.f8 22) = laws_heldFieldS.T22 := by kernel_rfl
theorem laws_heldFieldS.bits22 : waitsOk laws_heldFieldS.T22.2 laws_heldFieldS.B22 = true := by kernel_rfl
set_option maxHeartbeats 8000000 in
set_option maxRecDepth 100000 in
theorem laws_heldFieldS.calls (k : Nat) (A0 : Option Addr) (c0 : Nat) (l0 : List (S31)) (a1 : Int) (r : Int) (w : World) (hr0 : Kd.C k31 w A0 l0.length l0) (hc0 : l0.length ≤ c0) (h : laws_heldFieldS.f k l0 a1 = some r) :
  Calls Tryd.prog 8 #[.slice A0 l0.length c0, .int .i64 a1] w fun e w' => e = .returned (.int .i64 r) ∧ Below w.heap.size w w' := by
 (have HR0 := Aside0.mk hr0); (have HC0 := Aside0.mk hc0); clear hr0 hc0; (have HB := Aside0.mk (Below.refl w.heap.size w)); (unfold laws_heldFieldS.f at h); (have H := h); clear h; (have H' := Aside0.mk H); clear H; (go_enter Tryd.func8, Tryd.ntmps8); (go_wp2); (go_loopg [1, 5] k (fun kq v1 v5 w' => ∃ (x1_1 : Int) (x5_1 : Int), v1 = .int .i64 x1_1 ∧ v5 = .int .i64 x5_1 ∧ Aside0 (laws_heldFieldS.l0 kq l0 x1_1 x5_1 = some r) ∧ Aside0 (kq ≤ k) ∧ Aside0 (Below w.heap.size w w')))
 case atStart => exact ⟨(a1), (0), (by first | rfl | (simp; done) | (simp [*]; done)), (by first | rfl | (simp; done) | (simp [*]; done)), H', ⟨Nat.le_refl _⟩, ⟨eI HB⟩⟩
 case round =>
  (clear H'); (try clear p2); (obtain ⟨x1_1, x5_1, rfl, rfl, HA, HK1, HB⟩ := hrel)
  cases gk with
  | zero => exact absurd HA.out (by simp [laws_heldFieldS.l0])
  | succ k1 =>
   (have H := HA.out); clear HA; (simp only [laws_heldFieldS.l0] at H); (by_cases c3 : x5_1 < (l0.length : Int))
   ·rw [if_pos c3] at H
    (have c3b0 := decide_eq_true c3); clear c3; (by_cases c4 : 0 ≤ x5_1)
    ·rw [if_pos c4] at H
     (have c4b0 := decide_eq_true c4); clear c4; (replace H := obS H); (obtain ⟨t102, A5, H⟩ := H); (by_cases c6 : ((rd_T31 l0 x5_1).f0).toList = t102.toList)
     ·rw [if_pos c6] at H
      (have c6b0 : (((rd_T31 l0 x5_1).f0).toList == t102.toList) = true := beq_iff_eq.mpr c6); (have c6b1 : (((rd_T31 l0 x5_1).f0).toList != t102.toList) = false := bne_eq_false_iff_eq.mpr c6); clear c6; (by_cases c7 : ((rd_T31 l0 x5_1).f1) = (wrap64 (x1_1 + 1)))
      ·rw [if_pos c7] at H
       (have c7b0 : (((rd_T31 l0 x5_1).f1) == (wrap64 (x1_1 + 1))) = true := beq_iff_eq.mpr c7); (have c7b1 : (((rd_T31 l0 x5_1).f1) != (wrap64 (x1_1 + 1))) = false := bne_eq_false_iff_eq.mpr c7); clear c7; (by_cases c8 : ((rd_T31 l0 x5_1).f2) = (wrap64 ((wrap64 (x1_1 + 1)) + 1)))
       ·rw [if_pos c8] at H
        (have c8b0 : (((rd_T31 l0 x5_1).f2) == (wrap64 ((wrap64 (x1_1 + 1)) + 1))) = true := beq_iff_eq.mpr c8); (have c8b1 : (((rd_T31 l0 x5_1).f2) != (wrap64 ((wrap64 (x1_1 + 1)) + 1))) = false := bne_eq_false_iff_eq.mpr c8); clear c8; (by_cases c9 : ((rd_T31 l0 x5_1).f3) = (wrap64 ((wrap64 ((wrap64 (x1_1 + 1)) + 1)) + 1)))
        ·rw [if_pos c9] at H
         (have c9b0 : (((rd_T31 l0 x5_1).f3) == (wrap64 ((wrap64 ((wrap64 (x1_1 + 1)) + 1)) + 1))) = true := beq_iff_eq.mpr c9); (have c9b1 : (((rd_T31 l0 x5_1).f3) != (wrap64 ((wrap64 ((wrap64 (x1_1 + 1)) + 1)) + 1))) = false := bne_eq_false_iff_eq.mpr c9); clear c9; (replace H := obS H); (obtain ⟨t107, A10, H⟩ := H); (by_cases c11 : t107 < 0)
         ·rw [if_pos c11] at H
          (have c11b0 := decide_eq_true c11); clear c11; (obtain rfl := Option.some.inj H); (try go_wp2); (have n0_ := Aside0.mk (below_drew1 HB.out)); clear HB; (have HB := n0_); clear n0_; (have p101 : 0 ≤ (x5_1 : Int) := odt); (have q101 : x5_1 < (l0.length : Int) := odt); (obtain ⟨ad101, A101_4, c101_4, e101, hx101_0, hx101_1, hx101_2, hx101_3, hx101_4, hx101_5, hx101_6, hl101_4, hi101_4⟩ := at_T31 HR0.out x5_1 p101 q101); (have hw101_6 := hx101_6); (have hw101_5 := hx101_5); (have hw101_4 := hx101_4); (have hw101_3 := hx101_3); (have hw101_2 := hx101_2); (have hw101_1 := hx101_1); (have hw101_0 := hx101_0); (cases e101); (replace hx101_0 := hcI HB hx101_0); (replace hx101_1 := hcI HB hx101_1); (replace hx101_2 := hcI HB hx101_2); (replace hx101_3 := hcI HB hx101_3); (replace hx101_4 := hcI HB hx101_4); (replace hx101_5 := hcI HB hx101_5); (replace hx101_6 := hcI HB hx101_6); (have HR101_4 := Aside0.mk hi101_4); (have HC101_4 := Aside0.mk hl101_4); clear hi101_4 hl101_4; (replace p101 := eq_true p101); (replace q101 := eq_true q101); (refine start_ (n := 8) (S := fun w' => w'.cell? (ad101.add ((x5_1).toNat * 7)) = some (.string ((rd_T31 l0 x5_1).f0)) ∧ w'.cell? ⟨(ad101.add ((x5_1).toNat * 7)).block, (ad101.add ((x5_1).toNat * 7)).off + 1, none⟩ = some (.int .i64 ((rd_T31 l0 x5_1).f1)) ∧ w'.cell? ⟨(ad101.add ((x5_1).toNat * 7)).block, (ad101.add ((x5_1).toNat * 7)).off + 2, none⟩ = some (.int .i64 ((rd_T31 l0 x5_1).f2)) ∧ w'.cell? ⟨(ad101.add ((x5_1).toNat * 7)).block, (ad101.add ((x5_1).toNat * 7)).off + 3, none⟩ = some (.int .i64 ((rd_T31 l0 x5_1).f3)) ∧ w'.cell? ⟨(ad101.add ((x5_1).toNat * 7)).block, (ad101.add ((x5_1).toNat * 7)).off + 4, none⟩ = some (.slice A101_4 ((rd_T31 l0 x5_1).f4).length c101_4) ∧ w'.cell? ⟨(ad101.add ((x5_1).toNat * 7)).block, (ad101.add ((x5_1).toNat * 7)).off + 5, none⟩ = some (.bool ((rd_T31 l0 x5_1).f5)) ∧ w'.cell? ⟨(ad101.add ((x5_1).toNat * 7)).block, (ad101.add ((x5_1).toNat * 7)).off + 6, none⟩ = some (.string ((rd_T31 l0 x5_1).f6))) (ds := []) (cn 8 0) (by kernel_rfl) rfl (by kernel_rfl) ⟨(hcI HB hw101_0), (hcI HB hw101_1), (hcI HB hw101_2), (hcI HB hw101_3), (hcI HB hw101_4), (hcI HB hw101_5), (hcI HB hw101_6)⟩ (fun hHeld => ?_); refine with_tabW laws_heldFieldS.tab4 laws_heldFieldS.bits4 (fun HT_ HW_ => ?_)); (generalize wr.drew = w12 at HB HR101_4 hx101_0 hx101_1 hx101_2 hx101_3 hx101_4 hx101_5 hx101_6 hHeld ⊢); (refine pB 0 (cn 8 1) (some 12) HT_ (h := ?_)); (refine pB 1 (cn 8 2) (some 13) HT_ (h := ?_)); (refine pB 2 (cn 8 3) (some 14) HT_ (h := ?_)); (refine pB 3 (cn 8 4) (some 15) HT_ (h := ?_)); (refine pB 5 (cb 8 47) (some 17) HT_ (h := ?_)); (refine tB 4 (cn 8 6) (some 16) HT_ HW_ hHeld (h := ?_)); (refine oN 6 (some 18) (cn 8 7) HT_ (fun K hK => ?_)); (refine gG Tryd.func17 #[.int .i64 x1_1] ?_); (with_reducible refine (laws_markText.calls k1 x1_1 t102 _ A5.out).mono ?_); (rintro e w13 ⟨rfl, hb⟩); (refine ⟨_, rfl, ?_⟩); (have n0_ := Aside0.mk (sI hb HB)); clear HB; (have HB := n0_); clear n0_; ((try clear hb)); ((try clear hb2)); ((try clear hk)); ((try clear hi))
          (refine hK.out _ _ ⟨(hcI HB hw101_0), (hcI HB hw101_1), (hcI HB hw101_2), (hcI HB hw101_3), (hcI HB hw101_4), (hcI HB hw101_5), (hcI HB hw101_6)⟩ (fun hHeld => ?_)); clear hK K; (refine nP (some 18) (h := ?_)); (refine pB 7 (cn 8 8) (some 19) HT_ (h := ?_)); (refine done_ (done_of HT_.out (by kernel_rfl)) ?_); (have p103 : 0 ≤ (x5_1 : Int) := odt); (have q103 : x5_1 < (l0.length : Int) := odt); (obtain ⟨ad103, A103_4, c103_4, e103, hx103_0, hx103_1, hx103_2, hx103_3, hx103_4, hx103_5, hx103_6, hl103_4, hi103_4⟩ := at_T31 HR0.out x5_1 p103 q103); (obtain rfl : ad101 = ad103 := (by injection e103)); ((try (have ea_ := Option.some.inj (hx103_4.symm.trans hw101_4); injection ea_ with ea_ en_ ec_; subst ea_; subst ec_; clear en_))); (replace hx103_0 := hcI HB hx103_0); (replace hx103_1 := hcI HB hx103_1); (replace hx103_2 := hcI HB hx103_2); (replace hx103_3 := hcI HB hx103_3); (replace hx103_4 := hcI HB hx103_4); (replace hx103_5 := hcI HB hx103_5); (replace hx103_6 := hcI HB hx103_6); (have HR103_4 := Aside0.mk hi103_4); (have HC103_4 := Aside0.mk hl103_4); clear hi103_4 hl103_4; (replace p103 := eq_true p103); (replace q103 := eq_true q103); (have p104 : 0 ≤ (x5_1 : Int) := odt); (have q104 : x5_1 < (l0.length : Int) := odt); (obtain ⟨ad104, A104_4, c104_4, e104, hx104_0, hx104_1, hx104_2, hx104_3, hx104_4, hx104_5, hx104_6, hl104_4, hi104_4⟩ := at_T31 HR0.out x5_1 p104 q104); (obtain rfl : ad101 = ad104 := (by injection e104)); (replace hx104_0 := hcI HB hx104_0); (replace hx104_1 := hcI HB hx104_1); (replace hx104_2 := hcI HB hx104_2); (replace hx104_3 := hcI HB hx104_3); (replace hx104_4 := hcI HB hx104_4); (replace hx104_5 := hcI HB hx104_5); (replace hx104_6 := hcI HB hx104_6); (have HR104_4 := Aside0.mk hi104_4); (have HC104_4 := Aside0.mk hl104_4); clear hi104_4 hl104_4; (replace p104 := eq_true p104); (replace q104 := eq_true q104); (have ea_ := Option.some.inj (hx103_4.symm.trans hx104_4)); (injection ea_ with ea_ en_ ec_); subst ea_; subst ec_; clear en_; (have p105 : 0 ≤ (x5_1 : Int) := odt); (have q105 : x5_1 < (l0.length : Int) := odt); (obtain ⟨ad105, A105_4, c105_4, e105, hx105_0, hx105_1, hx105_2, hx105_3, hx105_4, hx105_5, hx105_6, hl105_4, hi105_4⟩ := at_T31 HR0.out x5_1 p105 q105); (obtain rfl : ad101 = ad105 := (by injection e105)); (replace hx105_0 := hcI HB hx105_0); (replace hx105_1 := hcI HB hx105_1); (replace hx105_2 := hcI HB hx105_2); (replace hx105_3 := hcI HB hx105_3); (replace hx105_4 := hcI HB hx105_4); (replace hx105_5 := hcI HB hx105_5); (replace hx105_6 := hcI HB hx105_6); (have HR105_4 := Aside0.mk hi105_4); (have HC105_4 := Aside0.mk hl105_4); clear hi105_4 hl105_4; (replace p105 := eq_true p105); (replace q105 := eq_true q105); (have ea_ := Option.some.inj (hx103_4.symm.trans hx105_4)); (injection ea_ with ea_ en_ ec_); subst ea_; subst ec_; clear en_; (have p106 : 0 ≤ (x5_1 : Int) := odt); (have q106 : x5_1 < (l0.length : Int) := odt); (obtain ⟨ad106, A106_4, c106_4, e106, hx106_0, hx106_1, hx106_2, hx106_3, hx106_4, hx106_5, hx106_6, hl106_4, hi106_4⟩ := at_T31 HR0.out x5_1 p106 q106); (obtain rfl : ad101 = ad106 := (by injection e106)); (replace hx106_0 := hcI HB hx106_0); (replace hx106_1 := hcI HB hx106_1); (replace hx106_2 := hcI HB hx106_2); (replace hx106_3 := hcI HB hx106_3); (replace hx106_4 := hcI HB hx106_4)
          (replace hx106_5 := hcI HB hx106_5); (replace hx106_6 := hcI HB hx106_6); (have HR106_4 := Aside0.mk hi106_4); (have HC106_4 := Aside0.mk hl106_4); clear hi106_4 hl106_4; (replace p106 := eq_true p106); (replace q106 := eq_true q106); (have ea_ := Option.some.inj (hx103_4.symm.trans hx106_4)); (injection ea_ with ea_ en_ ec_); subst ea_; subst ec_; clear en_; (try go_wp2_with (first | ((with_reducible refine gate_callee (f := 19) rfl ?_); refine gL (some 55) Tryd.func19 #[.slice A103_4 ((rd_T31 l0 x5_1).f4).length c103_4, .int .i64 (wrap64 ((wrap64 ((wrap64 ((wrap64 (x1_1 + 1)) + 1)) + 1)) + 1))] ?_; (with_reducible refine (laws_heldStringS.calls k1 _ _ ((rd_T31 l0 x5_1).f4) (wrap64 ((wrap64 ((wrap64 ((wrap64 (x1_1 + 1)) + 1)) + 1)) + 1)) t107 _ ?side1 ?side2 A10.out).mono ?_); (case side1 => exact Kd.C_below HR106_4.out (eI HB)); (case side2 => exact HC106_4.out); rintro e w14 ⟨rfl, hb⟩; refine ⟨_, rfl, ?_⟩; have n0_ := Aside0.mk (sI hb HB); clear HB; have HB := n0_; clear n0_; (try clear hb); (try clear hb2); (try clear hk); (try clear hi)))); go_ret; (exact ⟨rfl, eI HB⟩)
         ·rw [if_neg c11] at H
          (have c11b0 := decide_eq_false c11); clear c11; (by_cases c15 : (((rd_T31 l0 x5_1).f5) != ((Int.tmod t107 3) == 0)) = true)
          ·rw [if_pos c15] at H
           (have c15b0 : (((rd_T31 l0 x5_1).f5) != ((Int.tmod t107 3) == 0)) = true := c15); ((try (have c15b1 : decide (((rd_T31 l0 x5_1).f5) = ((Int.tmod t107 3) == 0)) = false := by simpa using c15))); ((try (have c15b2 : (((rd_T31 l0 x5_1).f5) == ((Int.tmod t107 3) == 0)) = false := by simpa using c15))); ((try (have c15b3 : ¬ (((rd_T31 l0 x5_1).f5) = ((Int.tmod t107 3) == 0)) := by simpa using c15))); clear c15; (obtain rfl := Option.some.inj H); (try go_wp2); (have n0_ := Aside0.mk (below_drew1 HB.out)); clear HB; (have HB := n0_); clear n0_; (have p101 : 0 ≤ (x5_1 : Int) := odt); (have q101 : x5_1 < (l0.length : Int) := odt); (obtain ⟨ad101, A101_4, c101_4, e101, hx101_0, hx101_1, hx101_2, hx101_3, hx101_4, hx101_5, hx101_6, hl101_4, hi101_4⟩ := at_T31 HR0.out x5_1 p101 q101); (have hw101_6 := hx101_6); (have hw101_5 := hx101_5); (have hw101_4 := hx101_4); (have hw101_3 := hx101_3); (have hw101_2 := hx101_2); (have hw101_1 := hx101_1); (have hw101_0 := hx101_0); (cases e101); (replace hx101_0 := hcI HB hx101_0); (replace hx101_1 := hcI HB hx101_1); (replace hx101_2 := hcI HB hx101_2); (replace hx101_3 := hcI HB hx101_3); (replace hx101_4 := hcI HB hx101_4); (replace hx101_5 := hcI HB hx101_5); (replace hx101_6 := hcI HB hx101_6); (have HR101_4 := Aside0.mk hi101_4); (have HC101_4 := Aside0.mk hl101_4); clear hi101_4 hl101_4; (replace p101 := eq_true p101); (replace q101 := eq_true q101); (refine start_ (n := 8) (S := fun w' => w'.cell? (ad101.add ((x5_1).toNat * 7)) = some (.string ((rd_T31 l0 x5_1).f0)) ∧ w'.cell? ⟨(ad101.add ((x5_1).toNat * 7)).block, (ad101.add ((x5_1).toNat * 7)).off + 1, none⟩ = some (.int .i64 ((rd_T31 l0 x5_1).f1)) ∧ w'.cell? ⟨(ad101.add ((x5_1).toNat * 7)).block, (ad101.add ((x5_1).toNat * 7)).off + 2, none⟩ = some (.int .i64 ((rd_T31 l0 x5_1).f2)) ∧ w'.cell? ⟨(ad101.add ((x5_1).toNat * 7)).block, (ad101.add ((x5_1).toNat * 7)).off + 3, none⟩ = some (.int .i64 ((rd_T31 l0 x5_1).f3)) ∧ w'.cell? ⟨(ad101.add ((x5_1).toNat * 7)).block, (ad101.add ((x5_1).toNat * 7)).off + 4, none⟩ = some (.slice A101_4 ((rd_T31 l0 x5_1).f4).length c101_4) ∧ w'.cell? ⟨(ad101.add ((x5_1).toNat * 7)).block, (ad101.add ((x5_1).toNat * 7)).off + 5, none⟩ = some (.bool ((rd_T31 l0 x5_1).f5)) ∧ w'.cell? ⟨(ad101.add ((x5_1).toNat * 7)).block, (ad101.add ((x5_1).toNat * 7)).off + 6, none⟩ = some (.string ((rd_T31 l0 x5_1).f6))) (ds := []) (cn 8 0) (by kernel_rfl) rfl (by kernel_rfl) ⟨(hcI HB hw101_0), (hcI HB hw101_1), (hcI HB hw101_2), (hcI HB hw101_3), (hcI HB hw101_4), (hcI HB hw101_5), (hcI HB hw101_6)⟩ (fun hHeld => ?_); refine with_tabW laws_heldFieldS.tab4 laws_heldFieldS.bits4 (fun HT_ HW_ => ?_)); (generalize wr.drew = w16 at HB HR101_4 hx101_0 hx101_1 hx101_2 hx101_3 hx101_4 hx101_5 hx101_6 hHeld ⊢); (refine pB 0 (cn 8 1) (some 12) HT_ (h := ?_)); (refine pB 1 (cn 8 2) (some 13) HT_ (h := ?_)); (refine pB 2 (cn 8 3) (some 14) HT_ (h := ?_)); (refine pB 3 (cn 8 4) (some 15) HT_ (h := ?_)); (refine pB 5 (cb 8 47) (some 17) HT_ (h := ?_)); (refine tB 4 (cn 8 6) (some 16) HT_ HW_ hHeld (h := ?_)); (refine oN 6 (some 18) (cn 8 7) HT_ (fun K hK => ?_)); (refine gG Tryd.func17 #[.int .i64 x1_1] ?_); (with_reducible refine (laws_markText.calls k1 x1_1 t102 _ A5.out).mono ?_); (rintro e w17 ⟨rfl, hb⟩); (refine ⟨_, rfl, ?_⟩)
           (have n0_ := Aside0.mk (sI hb HB)); clear HB; (have HB := n0_); clear n0_; ((try clear hb)); ((try clear hb2)); ((try clear hk)); ((try clear hi)); (refine hK.out _ _ ⟨(hcI HB hw101_0), (hcI HB hw101_1), (hcI HB hw101_2), (hcI HB hw101_3), (hcI HB hw101_4), (hcI HB hw101_5), (hcI HB hw101_6)⟩ (fun hHeld => ?_)); clear hK K; (refine nP (some 18) (h := ?_)); (refine pB 7 (cn 8 8) (some 19) HT_ (h := ?_)); (refine done_ (done_of HT_.out (by kernel_rfl)) ?_); (have p103 : 0 ≤ (x5_1 : Int) := odt); (have q103 : x5_1 < (l0.length : Int) := odt); (obtain ⟨ad103, A103_4, c103_4, e103, hx103_0, hx103_1, hx103_2, hx103_3, hx103_4, hx103_5, hx103_6, hl103_4, hi103_4⟩ := at_T31 HR0.out x5_1 p103 q103); (obtain rfl : ad101 = ad103 := (by injection e103)); ((try (have ea_ := Option.some.inj (hx103_4.symm.trans hw101_4); injection ea_ with ea_ en_ ec_; subst ea_; subst ec_; clear en_))); (replace hx103_0 := hcI HB hx103_0); (replace hx103_1 := hcI HB hx103_1); (replace hx103_2 := hcI HB hx103_2); (replace hx103_3 := hcI HB hx103_3); (replace hx103_4 := hcI HB hx103_4); (replace hx103_5 := hcI HB hx103_5); (replace hx103_6 := hcI HB hx103_6); (have HR103_4 := Aside0.mk hi103_4); (have HC103_4 := Aside0.mk hl103_4); clear hi103_4 hl103_4; (replace p103 := eq_true p103); (replace q103 := eq_true q103); (have p104 : 0 ≤ (x5_1 : Int) := odt); (have q104 : x5_1 < (l0.length : Int) := odt); (obtain ⟨ad104, A104_4, c104_4, e104, hx104_0, hx104_1, hx104_2, hx104_3, hx104_4, hx104_5, hx104_6, hl104_4, hi104_4⟩ := at_T31 HR0.out x5_1 p104 q104); (obtain rfl : ad101 = ad104 := (by injection e104)); (replace hx104_0 := hcI HB hx104_0); (replace hx104_1 := hcI HB hx104_1); (replace hx104_2 := hcI HB hx104_2); (replace hx104_3 := hcI HB hx104_3); (replace hx104_4 := hcI HB hx104_4); (replace hx104_5 := hcI HB hx104_5); (replace hx104_6 := hcI HB hx104_6); (have HR104_4 := Aside0.mk hi104_4); (have HC104_4 := Aside0.mk hl104_4); clear hi104_4 hl104_4; (replace p104 := eq_true p104); (replace q104 := eq_true q104); (have ea_ := Option.some.inj (hx103_4.symm.trans hx104_4)); (injection ea_ with ea_ en_ ec_); subst ea_; subst ec_; clear en_; (have p105 : 0 ≤ (x5_1 : Int) := odt); (have q105 : x5_1 < (l0.length : Int) := odt); (obtain ⟨ad105, A105_4, c105_4, e105, hx105_0, hx105_1, hx105_2, hx105_3, hx105_4, hx105_5, hx105_6, hl105_4, hi105_4⟩ := at_T31 HR0.out x5_1 p105 q105); (obtain rfl : ad101 = ad105 := (by injection e105)); (replace hx105_0 := hcI HB hx105_0); (replace hx105_1 := hcI HB hx105_1); (replace hx105_2 := hcI HB hx105_2); (replace hx105_3 := hcI HB hx105_3); (replace hx105_4 := hcI HB hx105_4); (replace hx105_5 := hcI HB hx105_5); (replace hx105_6 := hcI HB hx105_6); (have HR105_4 := Aside0.mk hi105_4); (have HC105_4 := Aside0.mk hl105_4); clear hi105_4 hl105_4; (replace p105 := eq_true p105); (replace q105 := eq_true q105); (have ea_ := Option.some.inj (hx103_4.symm.trans hx105_4)); (injection ea_ with ea_ en_ ec_); subst ea_; subst ec_; clear en_; (have p106 : 0 ≤ (x5_1 : Int) := odt); (have q106 : x5_1 < (l0.length : Int) := odt); (obtain ⟨ad106, A106_4, c106_4, e106, hx106_0, hx106_1, hx106_2, hx106_3, hx106_4, hx106_5, hx106_6, hl106_4, hi106_4⟩ := at_T31 HR0.out x5_1 p106 q106); (obtain rfl : ad101 = ad106 := (by injection e106)); (replace hx106_0 := hcI HB hx106_0); (replace hx106_1 := hcI HB hx106_1)
           (replace hx106_2 := hcI HB hx106_2); (replace hx106_3 := hcI HB hx106_3); (replace hx106_4 := hcI HB hx106_4); (replace hx106_5 := hcI HB hx106_5); (replace hx106_6 := hcI HB hx106_6); (have HR106_4 := Aside0.mk hi106_4); (have HC106_4 := Aside0.mk hl106_4); clear hi106_4 hl106_4; (replace p106 := eq_true p106); (replace q106 := eq_true q106); (have ea_ := Option.some.inj (hx103_4.symm.trans hx106_4)); (injection ea_ with ea_ en_ ec_); subst ea_; subst ec_; clear en_; (try go_wp2_with (first | ((with_reducible refine gate_callee (f := 19) rfl ?_); refine gL (some 55) Tryd.func19 #[.slice A103_4 ((rd_T31 l0 x5_1).f4).length c103_4, .int .i64 (wrap64 ((wrap64 ((wrap64 ((wrap64 (x1_1 + 1)) + 1)) + 1)) + 1))] ?_; (with_reducible refine (laws_heldStringS.calls k1 _ _ ((rd_T31 l0 x5_1).f4) (wrap64 ((wrap64 ((wrap64 ((wrap64 (x1_1 + 1)) + 1)) + 1)) + 1)) t107 _ ?side1 ?side2 A10.out).mono ?_); (case side1 => exact Kd.C_below HR106_4.out (eI HB)); (case side2 => exact HC106_4.out); rintro e w18 ⟨rfl, hb⟩; refine ⟨_, rfl, ?_⟩; have n0_ := Aside0.mk (sI hb HB); clear HB; have HB := n0_; clear n0_; (try clear hb); (try clear hb2); (try clear hk); (try clear hi); have p108 : 0 ≤ (x5_1 : Int) := odt; have q108 : x5_1 < (l0.length : Int) := odt; obtain ⟨ad108, A108_4, c108_4, e108, hx108_0, hx108_1, hx108_2, hx108_3, hx108_4, hx108_5, hx108_6, hl108_4, hi108_4⟩ := at_T31 HR0.out x5_1 p108 q108; obtain rfl : ad101 = ad108 := (by injection e108); replace hx108_0 := hcI HB hx108_0; replace hx108_1 := hcI HB hx108_1; replace hx108_2 := hcI HB hx108_2; replace hx108_3 := hcI HB hx108_3; replace hx108_4 := hcI HB hx108_4; replace hx108_5 := hcI HB hx108_5; replace hx108_6 := hcI HB hx108_6; have HR108_4 := Aside0.mk hi108_4; have HC108_4 := Aside0.mk hl108_4; clear hi108_4 hl108_4; replace p108 := eq_true p108; replace q108 := eq_true q108))); go_ret; (exact ⟨rfl, eI HB⟩)
          ·rw [if_neg c15] at H
           (have c15b0 : (((rd_T31 l0 x5_1).f5) != ((Int.tmod t107 3) == 0)) = false := by simpa using c15); ((try (have c15b1 : decide (((rd_T31 l0 x5_1).f5) = ((Int.tmod t107 3) == 0)) = true := by simpa using c15))); ((try (have c15b2 : (((rd_T31 l0 x5_1).f5) == ((Int.tmod t107 3) == 0)) = true := by simpa using c15))); clear c15; (replace H := obS H); (obtain ⟨t110, A19, H⟩ := H); (by_cases c20 : ((rd_T31 l0 x5_1).f6).toList = t110.toList)
           ·rw [if_pos c20] at H
            (have c20b0 : (((rd_T31 l0 x5_1).f6).toList == t110.toList) = true := beq_iff_eq.mpr c20); (have c20b1 : (((rd_T31 l0 x5_1).f6).toList != t110.toList) = false := bne_eq_false_iff_eq.mpr c20); clear c20; (have H' := Aside0.mk H); clear H; (try go_wp2); (have n0_ := Aside0.mk (below_drew1 HB.out)); clear HB; (have HB := n0_); clear n0_; (have p101 : 0 ≤ (x5_1 : Int) := odt); (have q101 : x5_1 < (l0.length : Int) := odt); (obtain ⟨ad101, A101_4, c101_4, e101, hx101_0, hx101_1, hx101_2, hx101_3, hx101_4, hx101_5, hx101_6, hl101_4, hi101_4⟩ := at_T31 HR0.out x5_1 p101 q101); (have hw101_6 := hx101_6); (have hw101_5 := hx101_5); (have hw101_4 := hx101_4); (have hw101_3 := hx101_3); (have hw101_2 := hx101_2); (have hw101_1 := hx101_1); (have hw101_0 := hx101_0); (cases e101); (replace hx101_0 := hcI HB hx101_0); (replace hx101_1 := hcI HB hx101_1); (replace hx101_2 := hcI HB hx101_2); (replace hx101_3 := hcI HB hx101_3); (replace hx101_4 := hcI HB hx101_4); (replace hx101_5 := hcI HB hx101_5); (replace hx101_6 := hcI HB hx101_6); (have HR101_4 := Aside0.mk hi101_4); (have HC101_4 := Aside0.mk hl101_4); clear hi101_4 hl101_4; (replace p101 := eq_true p101); (replace q101 := eq_true q101); (refine start_ (n := 8) (S := fun w' => w'.cell? (ad101.add ((x5_1).toNat * 7)) = some (.string ((rd_T31 l0 x5_1).f0)) ∧ w'.cell? ⟨(ad101.add ((x5_1).toNat * 7)).block, (ad101.add ((x5_1).toNat * 7)).off + 1, none⟩ = some (.int .i64 ((rd_T31 l0 x5_1).f1)) ∧ w'.cell? ⟨(ad101.add ((x5_1).toNat * 7)).block, (ad101.add ((x5_1).toNat * 7)).off + 2, none⟩ = some (.int .i64 ((rd_T31 l0 x5_1).f2)) ∧ w'.cell? ⟨(ad101.add ((x5_1).toNat * 7)).block, (ad101.add ((x5_1).toNat * 7)).off + 3, none⟩ = some (.int .i64 ((rd_T31 l0 x5_1).f3)) ∧ w'.cell? ⟨(ad101.add ((x5_1).toNat * 7)).block, (ad101.add ((x5_1).toNat * 7)).off + 4, none⟩ = some (.slice A101_4 ((rd_T31 l0 x5_1).f4).length c101_4) ∧ w'.cell? ⟨(ad101.add ((x5_1).toNat * 7)).block, (ad101.add ((x5_1).toNat * 7)).off + 5, none⟩ = some (.bool ((rd_T31 l0 x5_1).f5)) ∧ w'.cell? ⟨(ad101.add ((x5_1).toNat * 7)).block, (ad101.add ((x5_1).toNat * 7)).off + 6, none⟩ = some (.string ((rd_T31 l0 x5_1).f6))) (ds := []) (cn 8 0) (by kernel_rfl) rfl (by kernel_rfl) ⟨(hcI HB hw101_0), (hcI HB hw101_1), (hcI HB hw101_2), (hcI HB hw101_3), (hcI HB hw101_4), (hcI HB hw101_5), (hcI HB hw101_6)⟩ (fun hHeld => ?_); refine with_tabW laws_heldFieldS.tab4 laws_heldFieldS.bits4 (fun HT_ HW_ => ?_)); (generalize wr.drew = w21 at HB HR101_4 hx101_0 hx101_1 hx101_2 hx101_3 hx101_4 hx101_5 hx101_6 hHeld ⊢); (refine pB 0 (cn 8 1) (some 12) HT_ (h := ?_)); (refine pB 1 (cn 8 2) (some 13) HT_ (h := ?_)); (refine pB 2 (cn 8 3) (some 14) HT_ (h := ?_)); (refine pB 3 (cn 8 4) (some 15) HT_ (h := ?_)); (refine pB 5 (cb 8 47) (some 17) HT_ (h := ?_)); (refine tB 4 (cn 8 6) (some 16) HT_ HW_ hHeld (h := ?_)); (refine oN 6 (some 18) (cn 8 7) HT_ (fun K hK => ?_)); (refine gG Tryd.func17 #[.int .i64 x1_1] ?_); (with_reducible refine (laws_markText.calls k1 x1_1 t102 _ A5.out).mono ?_); (rintro e w22 ⟨rfl, hb⟩); (refine ⟨_, rfl, ?_⟩); (have n0_ := Aside0.mk (sI hb HB)); clear HB; (have HB := n0_)
            clear n0_; ((try clear hb)); ((try clear hb2)); ((try clear hk)); ((try clear hi)); (refine hK.out _ _ ⟨(hcI HB hw101_0), (hcI HB hw101_1), (hcI HB hw101_2), (hcI HB hw101_3), (hcI HB hw101_4), (hcI HB hw101_5), (hcI HB hw101_6)⟩ (fun hHeld => ?_)); clear hK K; (refine nP (some 18) (h := ?_)); (refine pB 7 (cn 8 8) (some 19) HT_ (h := ?_)); (refine done_ (done_of HT_.out (by kernel_rfl)) ?_); (have p103 : 0 ≤ (x5_1 : Int) := odt); (have q103 : x5_1 < (l0.length : Int) := odt); (obtain ⟨ad103, A103_4, c103_4, e103, hx103_0, hx103_1, hx103_2, hx103_3, hx103_4, hx103_5, hx103_6, hl103_4, hi103_4⟩ := at_T31 HR0.out x5_1 p103 q103); (obtain rfl : ad101 = ad103 := (by injection e103)); ((try (have ea_ := Option.some.inj (hx103_4.symm.trans hw101_4); injection ea_ with ea_ en_ ec_; subst ea_; subst ec_; clear en_))); (replace hx103_0 := hcI HB hx103_0); (replace hx103_1 := hcI HB hx103_1); (replace hx103_2 := hcI HB hx103_2); (replace hx103_3 := hcI HB hx103_3); (replace hx103_4 := hcI HB hx103_4); (replace hx103_5 := hcI HB hx103_5); (replace hx103_6 := hcI HB hx103_6); (have HR103_4 := Aside0.mk hi103_4); (have HC103_4 := Aside0.mk hl103_4); clear hi103_4 hl103_4; (replace p103 := eq_true p103); (replace q103 := eq_true q103); (have p104 : 0 ≤ (x5_1 : Int) := odt); (have q104 : x5_1 < (l0.length : Int) := odt); (obtain ⟨ad104, A104_4, c104_4, e104, hx104_0, hx104_1, hx104_2, hx104_3, hx104_4, hx104_5, hx104_6, hl104_4, hi104_4⟩ := at_T31 HR0.out x5_1 p104 q104); (obtain rfl : ad101 = ad104 := (by injection e104)); (replace hx104_0 := hcI HB hx104_0); (replace hx104_1 := hcI HB hx104_1); (replace hx104_2 := hcI HB hx104_2); (replace hx104_3 := hcI HB hx104_3); (replace hx104_4 := hcI HB hx104_4); (replace hx104_5 := hcI HB hx104_5); (replace hx104_6 := hcI HB hx104_6); (have HR104_4 := Aside0.mk hi104_4); (have HC104_4 := Aside0.mk hl104_4); clear hi104_4 hl104_4; (replace p104 := eq_true p104); (replace q104 := eq_true q104); (have ea_ := Option.some.inj (hx103_4.symm.trans hx104_4)); (injection ea_ with ea_ en_ ec_); subst ea_; subst ec_; clear en_; (have p105 : 0 ≤ (x5_1 : Int) := odt); (have q105 : x5_1 < (l0.length : Int) := odt); (obtain ⟨ad105, A105_4, c105_4, e105, hx105_0, hx105_1, hx105_2, hx105_3, hx105_4, hx105_5, hx105_6, hl105_4, hi105_4⟩ := at_T31 HR0.out x5_1 p105 q105); (obtain rfl : ad101 = ad105 := (by injection e105)); (replace hx105_0 := hcI HB hx105_0); (replace hx105_1 := hcI HB hx105_1); (replace hx105_2 := hcI HB hx105_2); (replace hx105_3 := hcI HB hx105_3); (replace hx105_4 := hcI HB hx105_4); (replace hx105_5 := hcI HB hx105_5); (replace hx105_6 := hcI HB hx105_6); (have HR105_4 := Aside0.mk hi105_4); (have HC105_4 := Aside0.mk hl105_4); clear hi105_4 hl105_4; (replace p105 := eq_true p105); (replace q105 := eq_true q105); (have ea_ := Option.some.inj (hx103_4.symm.trans hx105_4)); (injection ea_ with ea_ en_ ec_); subst ea_; subst ec_; clear en_; (have p106 : 0 ≤ (x5_1 : Int) := odt); (have q106 : x5_1 < (l0.length : Int) := odt); (obtain ⟨ad106, A106_4, c106_4, e106, hx106_0, hx106_1, hx106_2, hx106_3, hx106_4, hx106_5, hx106_6, hl106_4, hi106_4⟩ := at_T31 HR0.out x5_1 p106 q106); (obtain rfl : ad101 = ad106 := (by injection e106)); (replace hx106_0 := hcI HB hx106_0); (replace hx106_1 := hcI HB hx106_1); (replace hx106_2 := hcI HB hx106_2); (replace hx106_3 := hcI HB hx106_3)
            (replace hx106_4 := hcI HB hx106_4); (replace hx106_5 := hcI HB hx106_5); (replace hx106_6 := hcI HB hx106_6); (have HR106_4 := Aside0.mk hi106_4); (have HC106_4 := Aside0.mk hl106_4); clear hi106_4 hl106_4; (replace p106 := eq_true p106); (replace q106 := eq_true q106); (have ea_ := Option.some.inj (hx103_4.symm.trans hx106_4)); (injection ea_ with ea_ en_ ec_); subst ea_; subst ec_; clear en_; (try go_wp2_with (first | ((with_reducible refine gate_callee (f := 19) rfl ?_); refine gL (some 55) Tryd.func19 #[.slice A103_4 ((rd_T31 l0 x5_1).f4).length c103_4, .int .i64 (wrap64 ((wrap64 ((wrap64 ((wrap64 (x1_1 + 1)) + 1)) + 1)) + 1))] ?_; (with_reducible refine (laws_heldStringS.calls k1 _ _ ((rd_T31 l0 x5_1).f4) (wrap64 ((wrap64 ((wrap64 ((wrap64 (x1_1 + 1)) + 1)) + 1)) + 1)) t107 _ ?side1 ?side2 A10.out).mono ?_); (case side1 => exact Kd.C_below HR106_4.out (eI HB)); (case side2 => exact HC106_4.out); rintro e w23 ⟨rfl, hb⟩; refine ⟨_, rfl, ?_⟩; have n0_ := Aside0.mk (sI hb HB); clear HB; have HB := n0_; clear n0_; (try clear hb); (try clear hb2); (try clear hk); (try clear hi); have p108 : 0 ≤ (x5_1 : Int) := odt; have q108 : x5_1 < (l0.length : Int) := odt; obtain ⟨ad108, A108_4, c108_4, e108, hx108_0, hx108_1, hx108_2, hx108_3, hx108_4, hx108_5, hx108_6, hl108_4, hi108_4⟩ := at_T31 HR0.out x5_1 p108 q108; obtain rfl : ad101 = ad108 := (by injection e108); replace hx108_0 := hcI HB hx108_0; replace hx108_1 := hcI HB hx108_1; replace hx108_2 := hcI HB hx108_2; replace hx108_3 := hcI HB hx108_3; replace hx108_4 := hcI HB hx108_4; replace hx108_5 := hcI HB hx108_5; replace hx108_6 := hcI HB hx108_6; have HR108_4 := Aside0.mk hi108_4; have HC108_4 := Aside0.mk hl108_4; clear hi108_4 hl108_4; replace p108 := eq_true p108; replace q108 := eq_true q108))); (have n0_ := Aside0.mk (below_drew1 HB.out)); clear HB; (have HB := n0_); clear n0_; (have p109 : 0 ≤ (x5_1 : Int) := odt); (have q109 : x5_1 < (l0.length : Int) := odt); (obtain ⟨ad109, A109_4, c109_4, e109, hx109_0, hx109_1, hx109_2, hx109_3, hx109_4, hx109_5, hx109_6, hl109_4, hi109_4⟩ := at_T31 HR0.out x5_1 p109 q109); (have hw109_6 := hx109_6); (have hw109_5 := hx109_5); (have hw109_4 := hx109_4); (have hw109_3 := hx109_3); (have hw109_2 := hx109_2); (have hw109_1 := hx109_1); (have hw109_0 := hx109_0); (obtain rfl : ad101 = ad109 := (by injection e109)); ((try (have ea_ := Option.some.inj (hx109_4.symm.trans hw101_4); injection ea_ with ea_ en_ ec_; subst ea_; subst ec_; clear en_))); (replace hx109_0 := hcI HB hx109_0); (replace hx109_1 := hcI HB hx109_1); (replace hx109_2 := hcI HB hx109_2); (replace hx109_3 := hcI HB hx109_3); (replace hx109_4 := hcI HB hx109_4); (replace hx109_5 := hcI HB hx109_5); (replace hx109_6 := hcI HB hx109_6); (have HR109_4 := Aside0.mk hi109_4); (have HC109_4 := Aside0.mk hl109_4); clear hi109_4 hl109_4; (replace p109 := eq_true p109); (replace q109 := eq_true q109); (refine start_ (n := 8) (S := fun w' => w'.cell? (ad101.add ((x5_1).toNat * 7)) = some (.string ((rd_T31 l0 x5_1).f0)) ∧ w'.cell? ⟨(ad101.add ((x5_1).toNat * 7)).block, (ad101.add ((x5_1).toNat * 7)).off + 1, none⟩ = some (.int .i64 ((rd_T31 l0 x5_1).f1)) ∧ w'.cell? ⟨(ad101.add ((x5_1).toNat * 7)).block, (ad101.add ((x5_1).toNat * 7)).off + 2, none⟩ = some (.int .i64 ((rd_T31 l0 x5_1).f2)) ∧ w'.cell? ⟨(ad101.add ((x5_1).toNat * 7)).block, (ad101.add ((x5_1).toNat * 7)).off + 3, none⟩ = some (.int .i64 ((rd_T31 l0 x5_1).f3)) ∧ w'.cell? ⟨(ad101.add ((x5_1).toNat * 7)).block, (ad101.add ((x5_1).toNat * 7)).off + 4, none⟩ = some (.slice A109_4 ((rd_T31 l0 x5_1).f4).length c109_4) ∧ w'.cell? ⟨(ad101.add ((x5_1).toNat * 7)).block, (ad101.add ((x5_1).toNat * 7)).off + 5, none⟩ = some (.bool ((rd_T31 l0 x5_1).f5)) ∧ w'.cell? ⟨(ad101.add ((x5_1).toNat * 7)).block, (ad101.add ((x5_1).toNat * 7)).off + 6, none⟩ = some (.string ((rd_T31 l0 x5_1).f6))) (ds := []) (cn 8 0) (by kernel_rfl) rfl (by kernel_rfl) ⟨(hcI HB hw109_0), (hcI HB hw109_1), (hcI HB hw109_2), (hcI HB hw109_3), (hcI HB hw109_4), (hcI HB hw109_5), (hcI HB hw109_6)⟩ (fun hHeld => ?_); refine with_tabW laws_heldFieldS.tab22 laws_heldFieldS.bits22 (fun HT_ HW_ => ?_))
            (generalize w23.drew = w24 at HB HR109_4 hx109_0 hx109_1 hx109_2 hx109_3 hx109_4 hx109_5 hx109_6 hHeld ⊢); (refine pB 0 (cn 8 1) (some 69) HT_ (h := ?_)); (refine pB 1 (cn 8 2) (some 70) HT_ (h := ?_)); (refine pB 2 (cn 8 3) (some 71) HT_ (h := ?_)); (refine pB 3 (cn 8 4) (some 72) HT_ (h := ?_)); (refine pB 5 (cb 8 47) (some 74) HT_ (h := ?_)); (refine tB 4 (cn 8 6) (some 73) HT_ HW_ hHeld (h := ?_)); (refine oN 6 (some 75) (cn 8 7) HT_ (fun K hK => ?_)); (refine gG Tryd.func17 #[.int .i64 (wrap64 (t107 + 1))] ?_); (with_reducible refine (laws_markText.calls k1 (wrap64 (t107 + 1)) t110 _ A19.out).mono ?_); (rintro e w25 ⟨rfl, hb⟩); (refine ⟨_, rfl, ?_⟩); (have n0_ := Aside0.mk (sI hb HB)); clear HB; (have HB := n0_); clear n0_; ((try clear hb)); ((try clear hb2)); ((try clear hk)); ((try clear hi)); (refine hK.out _ _ ⟨(hcI HB hw109_0), (hcI HB hw109_1), (hcI HB hw109_2), (hcI HB hw109_3), (hcI HB hw109_4), (hcI HB hw109_5), (hcI HB hw109_6)⟩ (fun hHeld => ?_)); clear hK K; (refine nP (some 75) (h := ?_)); (refine pB 7 (cn 8 8) (some 76) HT_ (h := ?_)); (refine done_ (done_of HT_.out (by kernel_rfl)) ?_); (try go_wp2); go_roundg k1
            case measure => have := HK1.out; omega
            case rel => exact ⟨(wrap64 ((wrap64 (t107 + 1)) + 1)), (wrap64 (x5_1 + 1)), (by first | rfl | (simp; done) | (simp [*]; done)), (by first | rfl | (simp; done) | (simp [*]; done)), H', ⟨by have := HK1.out; omega⟩, ⟨eI HB⟩⟩
           ·rw [if_neg c20] at H
            (have c20b0 : (((rd_T31 l0 x5_1).f6).toList == t110.toList) = false := beq_eq_false_iff_ne.mpr c20); (have c20b1 : (((rd_T31 l0 x5_1).f6).toList != t110.toList) = true := bne_iff_ne.mpr c20); (obtain rfl := Option.some.inj H); (try go_wp2); (have n0_ := Aside0.mk (below_drew1 HB.out)); clear HB; (have HB := n0_); clear n0_; (have p101 : 0 ≤ (x5_1 : Int) := odt); (have q101 : x5_1 < (l0.length : Int) := odt); (obtain ⟨ad101, A101_4, c101_4, e101, hx101_0, hx101_1, hx101_2, hx101_3, hx101_4, hx101_5, hx101_6, hl101_4, hi101_4⟩ := at_T31 HR0.out x5_1 p101 q101); (have hw101_6 := hx101_6); (have hw101_5 := hx101_5); (have hw101_4 := hx101_4); (have hw101_3 := hx101_3); (have hw101_2 := hx101_2); (have hw101_1 := hx101_1); (have hw101_0 := hx101_0); (cases e101); (replace hx101_0 := hcI HB hx101_0); (replace hx101_1 := hcI HB hx101_1); (replace hx101_2 := hcI HB hx101_2); (replace hx101_3 := hcI HB hx101_3); (replace hx101_4 := hcI HB hx101_4); (replace hx101_5 := hcI HB hx101_5); (replace hx101_6 := hcI HB hx101_6); (have HR101_4 := Aside0.mk hi101_4); (have HC101_4 := Aside0.mk hl101_4); clear hi101_4 hl101_4; (replace p101 := eq_true p101); (replace q101 := eq_true q101); (refine start_ (n := 8) (S := fun w' => w'.cell? (ad101.add ((x5_1).toNat * 7)) = some (.string ((rd_T31 l0 x5_1).f0)) ∧ w'.cell? ⟨(ad101.add ((x5_1).toNat * 7)).block, (ad101.add ((x5_1).toNat * 7)).off + 1, none⟩ = some (.int .i64 ((rd_T31 l0 x5_1).f1)) ∧ w'.cell? ⟨(ad101.add ((x5_1).toNat * 7)).block, (ad101.add ((x5_1).toNat * 7)).off + 2, none⟩ = some (.int .i64 ((rd_T31 l0 x5_1).f2)) ∧ w'.cell? ⟨(ad101.add ((x5_1).toNat * 7)).block, (ad101.add ((x5_1).toNat * 7)).off + 3, none⟩ = some (.int .i64 ((rd_T31 l0 x5_1).f3)) ∧ w'.cell? ⟨(ad101.add ((x5_1).toNat * 7)).block, (ad101.add ((x5_1).toNat * 7)).off + 4, none⟩ = some (.slice A101_4 ((rd_T31 l0 x5_1).f4).length c101_4) ∧ w'.cell? ⟨(ad101.add ((x5_1).toNat * 7)).block, (ad101.add ((x5_1).toNat * 7)).off + 5, none⟩ = some (.bool ((rd_T31 l0 x5_1).f5)) ∧ w'.cell? ⟨(ad101.add ((x5_1).toNat * 7)).block, (ad101.add ((x5_1).toNat * 7)).off + 6, none⟩ = some (.string ((rd_T31 l0 x5_1).f6))) (ds := []) (cn 8 0) (by kernel_rfl) rfl (by kernel_rfl) ⟨(hcI HB hw101_0), (hcI HB hw101_1), (hcI HB hw101_2), (hcI HB hw101_3), (hcI HB hw101_4), (hcI HB hw101_5), (hcI HB hw101_6)⟩ (fun hHeld => ?_); refine with_tabW laws_heldFieldS.tab4 laws_heldFieldS.bits4 (fun HT_ HW_ => ?_)); (generalize wr.drew = w26 at HB HR101_4 hx101_0 hx101_1 hx101_2 hx101_3 hx101_4 hx101_5 hx101_6 hHeld ⊢); (refine pB 0 (cn 8 1) (some 12) HT_ (h := ?_)); (refine pB 1 (cn 8 2) (some 13) HT_ (h := ?_)); (refine pB 2 (cn 8 3) (some 14) HT_ (h := ?_)); (refine pB 3 (cn 8 4) (some 15) HT_ (h := ?_)); (refine pB 5 (cb 8 47) (some 17) HT_ (h := ?_)); (refine tB 4 (cn 8 6) (some 16) HT_ HW_ hHeld (h := ?_)); (refine oN 6 (some 18) (cn 8 7) HT_ (fun K hK => ?_)); (refine gG Tryd.func17 #[.int .i64 x1_1] ?_); (with_reducible refine (laws_markText.calls k1 x1_1 t102 _ A5.out).mono ?_); (rintro e w27 ⟨rfl, hb⟩); (refine ⟨_, rfl, ?_⟩); (have n0_ := Aside0.mk (sI hb HB)); clear HB; (have HB := n0_); clear n0_
            ((try clear hb)); ((try clear hb2)); ((try clear hk)); ((try clear hi)); (refine hK.out _ _ ⟨(hcI HB hw101_0), (hcI HB hw101_1), (hcI HB hw101_2), (hcI HB hw101_3), (hcI HB hw101_4), (hcI HB hw101_5), (hcI HB hw101_6)⟩ (fun hHeld => ?_)); clear hK K; (refine nP (some 18) (h := ?_)); (refine pB 7 (cn 8 8) (some 19) HT_ (h := ?_)); (refine done_ (done_of HT_.out (by kernel_rfl)) ?_); (have p103 : 0 ≤ (x5_1 : Int) := odt); (have q103 : x5_1 < (l0.length : Int) := odt); (obtain ⟨ad103, A103_4, c103_4, e103, hx103_0, hx103_1, hx103_2, hx103_3, hx103_4, hx103_5, hx103_6, hl103_4, hi103_4⟩ := at_T31 HR0.out x5_1 p103 q103); (obtain rfl : ad101 = ad103 := (by injection e103)); ((try (have ea_ := Option.some.inj (hx103_4.symm.trans hw101_4); injection ea_ with ea_ en_ ec_; subst ea_; subst ec_; clear en_))); (replace hx103_0 := hcI HB hx103_0); (replace hx103_1 := hcI HB hx103_1); (replace hx103_2 := hcI HB hx103_2); (replace hx103_3 := hcI HB hx103_3); (replace hx103_4 := hcI HB hx103_4); (replace hx103_5 := hcI HB hx103_5); (replace hx103_6 := hcI HB hx103_6); (have HR103_4 := Aside0.mk hi103_4); (have HC103_4 := Aside0.mk hl103_4); clear hi103_4 hl103_4; (replace p103 := eq_true p103); (replace q103 := eq_true q103); (have p104 : 0 ≤ (x5_1 : Int) := odt); (have q104 : x5_1 < (l0.length : Int) := odt); (obtain ⟨ad104, A104_4, c104_4, e104, hx104_0, hx104_1, hx104_2, hx104_3, hx104_4, hx104_5, hx104_6, hl104_4, hi104_4⟩ := at_T31 HR0.out x5_1 p104 q104); (obtain rfl : ad101 = ad104 := (by injection e104)); (replace hx104_0 := hcI HB hx104_0); (replace hx104_1 := hcI HB hx104_1); (replace hx104_2 := hcI HB hx104_2); (replace hx104_3 := hcI HB hx104_3); (replace hx104_4 := hcI HB hx104_4); (replace hx104_5 := hcI HB hx104_5); (replace hx104_6 := hcI HB hx104_6); (have HR104_4 := Aside0.mk hi104_4); (have HC104_4 := Aside0.mk hl104_4); clear hi104_4 hl104_4; (replace p104 := eq_true p104); (replace q104 := eq_true q104); (have ea_ := Option.some.inj (hx103_4.symm.trans hx104_4)); (injection ea_ with ea_ en_ ec_); subst ea_; subst ec_; clear en_; (have p105 : 0 ≤ (x5_1 : Int) := odt); (have q105 : x5_1 < (l0.length : Int) := odt); (obtain ⟨ad105, A105_4, c105_4, e105, hx105_0, hx105_1, hx105_2, hx105_3, hx105_4, hx105_5, hx105_6, hl105_4, hi105_4⟩ := at_T31 HR0.out x5_1 p105 q105); (obtain rfl : ad101 = ad105 := (by injection e105)); (replace hx105_0 := hcI HB hx105_0); (replace hx105_1 := hcI HB hx105_1); (replace hx105_2 := hcI HB hx105_2); (replace hx105_3 := hcI HB hx105_3); (replace hx105_4 := hcI HB hx105_4); (replace hx105_5 := hcI HB hx105_5); (replace hx105_6 := hcI HB hx105_6); (have HR105_4 := Aside0.mk hi105_4); (have HC105_4 := Aside0.mk hl105_4); clear hi105_4 hl105_4; (replace p105 := eq_true p105); (replace q105 := eq_true q105); (have ea_ := Option.some.inj (hx103_4.symm.trans hx105_4)); (injection ea_ with ea_ en_ ec_); subst ea_; subst ec_; clear en_; (have p106 : 0 ≤ (x5_1 : Int) := odt); (have q106 : x5_1 < (l0.length : Int) := odt); (obtain ⟨ad106, A106_4, c106_4, e106, hx106_0, hx106_1, hx106_2, hx106_3, hx106_4, hx106_5, hx106_6, hl106_4, hi106_4⟩ := at_T31 HR0.out x5_1 p106 q106); (obtain rfl : ad101 = ad106 := (by injection e106)); (replace hx106_0 := hcI HB hx106_0); (replace hx106_1 := hcI HB hx106_1); (replace hx106_2 := hcI HB hx106_2); (replace hx106_3 := hcI HB hx106_3)
            (replace hx106_4 := hcI HB hx106_4); (replace hx106_5 := hcI HB hx106_5); (replace hx106_6 := hcI HB hx106_6); (have HR106_4 := Aside0.mk hi106_4); (have HC106_4 := Aside0.mk hl106_4); clear hi106_4 hl106_4; (replace p106 := eq_true p106); (replace q106 := eq_true q106); (have ea_ := Option.some.inj (hx103_4.symm.trans hx106_4)); (injection ea_ with ea_ en_ ec_); subst ea_; subst ec_; clear en_; (try go_wp2_with (first | ((with_reducible refine gate_callee (f := 19) rfl ?_); refine gL (some 55) Tryd.func19 #[.slice A103_4 ((rd_T31 l0 x5_1).f4).length c103_4, .int .i64 (wrap64 ((wrap64 ((wrap64 ((wrap64 (x1_1 + 1)) + 1)) + 1)) + 1))] ?_; (with_reducible refine (laws_heldStringS.calls k1 _ _ ((rd_T31 l0 x5_1).f4) (wrap64 ((wrap64 ((wrap64 ((wrap64 (x1_1 + 1)) + 1)) + 1)) + 1)) t107 _ ?side1 ?side2 A10.out).mono ?_); (case side1 => exact Kd.C_below HR106_4.out (eI HB)); (case side2 => exact HC106_4.out); rintro e w28 ⟨rfl, hb⟩; refine ⟨_, rfl, ?_⟩; have n0_ := Aside0.mk (sI hb HB); clear HB; have HB := n0_; clear n0_; (try clear hb); (try clear hb2); (try clear hk); (try clear hi); have p108 : 0 ≤ (x5_1 : Int) := odt; have q108 : x5_1 < (l0.length : Int) := odt; obtain ⟨ad108, A108_4, c108_4, e108, hx108_0, hx108_1, hx108_2, hx108_3, hx108_4, hx108_5, hx108_6, hl108_4, hi108_4⟩ := at_T31 HR0.out x5_1 p108 q108; obtain rfl : ad101 = ad108 := (by injection e108); replace hx108_0 := hcI HB hx108_0; replace hx108_1 := hcI HB hx108_1; replace hx108_2 := hcI HB hx108_2; replace hx108_3 := hcI HB hx108_3; replace hx108_4 := hcI HB hx108_4; replace hx108_5 := hcI HB hx108_5; replace hx108_6 := hcI HB hx108_6; have HR108_4 := Aside0.mk hi108_4; have HC108_4 := Aside0.mk hl108_4; clear hi108_4 hl108_4; replace p108 := eq_true p108; replace q108 := eq_true q108))); (have n0_ := Aside0.mk (below_drew1 HB.out)); clear HB; (have HB := n0_); clear n0_; (have p109 : 0 ≤ (x5_1 : Int) := odt); (have q109 : x5_1 < (l0.length : Int) := odt); (obtain ⟨ad109, A109_4, c109_4, e109, hx109_0, hx109_1, hx109_2, hx109_3, hx109_4, hx109_5, hx109_6, hl109_4, hi109_4⟩ := at_T31 HR0.out x5_1 p109 q109); (have hw109_6 := hx109_6); (have hw109_5 := hx109_5); (have hw109_4 := hx109_4); (have hw109_3 := hx109_3); (have hw109_2 := hx109_2); (have hw109_1 := hx109_1); (have hw109_0 := hx109_0); (obtain rfl : ad101 = ad109 := (by injection e109)); ((try (have ea_ := Option.some.inj (hx109_4.symm.trans hw101_4); injection ea_ with ea_ en_ ec_; subst ea_; subst ec_; clear en_))); (replace hx109_0 := hcI HB hx109_0); (replace hx109_1 := hcI HB hx109_1); (replace hx109_2 := hcI HB hx109_2); (replace hx109_3 := hcI HB hx109_3); (replace hx109_4 := hcI HB hx109_4); (replace hx109_5 := hcI HB hx109_5); (replace hx109_6 := hcI HB hx109_6); (have HR109_4 := Aside0.mk hi109_4); (have HC109_4 := Aside0.mk hl109_4); clear hi109_4 hl109_4; (replace p109 := eq_true p109); (replace q109 := eq_true q109); (refine start_ (n := 8) (S := fun w' => w'.cell? (ad101.add ((x5_1).toNat * 7)) = some (.string ((rd_T31 l0 x5_1).f0)) ∧ w'.cell? ⟨(ad101.add ((x5_1).toNat * 7)).block, (ad101.add ((x5_1).toNat * 7)).off + 1, none⟩ = some (.int .i64 ((rd_T31 l0 x5_1).f1)) ∧ w'.cell? ⟨(ad101.add ((x5_1).toNat * 7)).block, (ad101.add ((x5_1).toNat * 7)).off + 2, none⟩ = some (.int .i64 ((rd_T31 l0 x5_1).f2)) ∧ w'.cell? ⟨(ad101.add ((x5_1).toNat * 7)).block, (ad101.add ((x5_1).toNat * 7)).off + 3, none⟩ = some (.int .i64 ((rd_T31 l0 x5_1).f3)) ∧ w'.cell? ⟨(ad101.add ((x5_1).toNat * 7)).block, (ad101.add ((x5_1).toNat * 7)).off + 4, none⟩ = some (.slice A109_4 ((rd_T31 l0 x5_1).f4).length c109_4) ∧ w'.cell? ⟨(ad101.add ((x5_1).toNat * 7)).block, (ad101.add ((x5_1).toNat * 7)).off + 5, none⟩ = some (.bool ((rd_T31 l0 x5_1).f5)) ∧ w'.cell? ⟨(ad101.add ((x5_1).toNat * 7)).block, (ad101.add ((x5_1).toNat * 7)).off + 6, none⟩ = some (.string ((rd_T31 l0 x5_1).f6))) (ds := []) (cn 8 0) (by kernel_rfl) rfl (by kernel_rfl) ⟨(hcI HB hw109_0), (hcI HB hw109_1), (hcI HB hw109_2), (hcI HB hw109_3), (hcI HB hw109_4), (hcI HB hw109_5), (hcI HB hw109_6)⟩ (fun hHeld => ?_); refine with_tabW laws_heldFieldS.tab22 laws_heldFieldS.bits22 (fun HT_ HW_ => ?_))
            (generalize w28.drew = w29 at HB HR109_4 hx109_0 hx109_1 hx109_2 hx109_3 hx109_4 hx109_5 hx109_6 hHeld ⊢); (refine pB 0 (cn 8 1) (some 69) HT_ (h := ?_)); (refine pB 1 (cn 8 2) (some 70) HT_ (h := ?_)); (refine pB 2 (cn 8 3) (some 71) HT_ (h := ?_)); (refine pB 3 (cn 8 4) (some 72) HT_ (h := ?_)); (refine pB 5 (cb 8 47) (some 74) HT_ (h := ?_)); (refine tB 4 (cn 8 6) (some 73) HT_ HW_ hHeld (h := ?_)); (refine oN 6 (some 75) (cn 8 7) HT_ (fun K hK => ?_)); (refine gG Tryd.func17 #[.int .i64 (wrap64 (t107 + 1))] ?_); (with_reducible refine (laws_markText.calls k1 (wrap64 (t107 + 1)) t110 _ A19.out).mono ?_); (rintro e w30 ⟨rfl, hb⟩); (refine ⟨_, rfl, ?_⟩); (have n0_ := Aside0.mk (sI hb HB)); clear HB; (have HB := n0_); clear n0_; ((try clear hb)); ((try clear hb2)); ((try clear hk)); ((try clear hi)); (refine hK.out _ _ ⟨(hcI HB hw109_0), (hcI HB hw109_1), (hcI HB hw109_2), (hcI HB hw109_3), (hcI HB hw109_4), (hcI HB hw109_5), (hcI HB hw109_6)⟩ (fun hHeld => ?_)); clear hK K; (refine nP (some 75) (h := ?_)); (refine pB 7 (cn 8 8) (some 76) HT_ (h := ?_)); (refine done_ (done_of HT_.out (by kernel_rfl)) ?_); (try go_wp2); go_ret; (exact ⟨rfl, eI HB⟩)
        ·rw [if_neg c9] at H
         (have c9b0 : (((rd_T31 l0 x5_1).f3) == (wrap64 ((wrap64 ((wrap64 (x1_1 + 1)) + 1)) + 1))) = false := beq_eq_false_iff_ne.mpr c9); (have c9b1 : (((rd_T31 l0 x5_1).f3) != (wrap64 ((wrap64 ((wrap64 (x1_1 + 1)) + 1)) + 1))) = true := bne_iff_ne.mpr c9); (obtain rfl := Option.some.inj H); (try go_wp2); (have n0_ := Aside0.mk (below_drew1 HB.out)); clear HB; (have HB := n0_); clear n0_; (have p101 : 0 ≤ (x5_1 : Int) := odt); (have q101 : x5_1 < (l0.length : Int) := odt); (obtain ⟨ad101, A101_4, c101_4, e101, hx101_0, hx101_1, hx101_2, hx101_3, hx101_4, hx101_5, hx101_6, hl101_4, hi101_4⟩ := at_T31 HR0.out x5_1 p101 q101); (have hw101_6 := hx101_6); (have hw101_5 := hx101_5); (have hw101_4 := hx101_4); (have hw101_3 := hx101_3); (have hw101_2 := hx101_2); (have hw101_1 := hx101_1); (have hw101_0 := hx101_0); (cases e101); (replace hx101_0 := hcI HB hx101_0); (replace hx101_1 := hcI HB hx101_1); (replace hx101_2 := hcI HB hx101_2); (replace hx101_3 := hcI HB hx101_3); (replace hx101_4 := hcI HB hx101_4); (replace hx101_5 := hcI HB hx101_5); (replace hx101_6 := hcI HB hx101_6); (have HR101_4 := Aside0.mk hi101_4); (have HC101_4 := Aside0.mk hl101_4); clear hi101_4 hl101_4; (replace p101 := eq_true p101); (replace q101 := eq_true q101); (refine start_ (n := 8) (S := fun w' => w'.cell? (ad101.add ((x5_1).toNat * 7)) = some (.string ((rd_T31 l0 x5_1).f0)) ∧ w'.cell? ⟨(ad101.add ((x5_1).toNat * 7)).block, (ad101.add ((x5_1).toNat * 7)).off + 1, none⟩ = some (.int .i64 ((rd_T31 l0 x5_1).f1)) ∧ w'.cell? ⟨(ad101.add ((x5_1).toNat * 7)).block, (ad101.add ((x5_1).toNat * 7)).off + 2, none⟩ = some (.int .i64 ((rd_T31 l0 x5_1).f2)) ∧ w'.cell? ⟨(ad101.add ((x5_1).toNat * 7)).block, (ad101.add ((x5_1).toNat * 7)).off + 3, none⟩ = some (.int .i64 ((rd_T31 l0 x5_1).f3)) ∧ w'.cell? ⟨(ad101.add ((x5_1).toNat * 7)).block, (ad101.add ((x5_1).toNat * 7)).off + 4, none⟩ = some (.slice A101_4 ((rd_T31 l0 x5_1).f4).length c101_4) ∧ w'.cell? ⟨(ad101.add ((x5_1).toNat * 7)).block, (ad101.add ((x5_1).toNat * 7)).off + 5, none⟩ = some (.bool ((rd_T31 l0 x5_1).f5)) ∧ w'.cell? ⟨(ad101.add ((x5_1).toNat * 7)).block, (ad101.add ((x5_1).toNat * 7)).off + 6, none⟩ = some (.string ((rd_T31 l0 x5_1).f6))) (ds := []) (cn 8 0) (by kernel_rfl) rfl (by kernel_rfl) ⟨(hcI HB hw101_0), (hcI HB hw101_1), (hcI HB hw101_2), (hcI HB hw101_3), (hcI HB hw101_4), (hcI HB hw101_5), (hcI HB hw101_6)⟩ (fun hHeld => ?_); refine with_tabW laws_heldFieldS.tab4 laws_heldFieldS.bits4 (fun HT_ HW_ => ?_)); (generalize wr.drew = w31 at HB HR101_4 hx101_0 hx101_1 hx101_2 hx101_3 hx101_4 hx101_5 hx101_6 hHeld ⊢); (refine pB 0 (cn 8 1) (some 12) HT_ (h := ?_)); (refine pB 1 (cn 8 2) (some 13) HT_ (h := ?_)); (refine pB 2 (cn 8 3) (some 14) HT_ (h := ?_)); (refine pB 3 (cn 8 4) (some 15) HT_ (h := ?_)); (refine pB 5 (cb 8 47) (some 17) HT_ (h := ?_)); (refine tB 4 (cn 8 6) (some 16) HT_ HW_ hHeld (h := ?_)); (refine oN 6 (some 18) (cn 8 7) HT_ (fun K hK => ?_)); (refine gG Tryd.func17 #[.int .i64 x1_1] ?_); (with_reducible refine (laws_markText.calls k1 x1_1 t102 _ A5.out).mono ?_); (rintro e w32 ⟨rfl, hb⟩); (refine ⟨_, rfl, ?_⟩)
         (have n0_ := Aside0.mk (sI hb HB)); clear HB; (have HB := n0_); clear n0_; ((try clear hb)); ((try clear hb2)); ((try clear hk)); ((try clear hi)); (refine hK.out _ _ ⟨(hcI HB hw101_0), (hcI HB hw101_1), (hcI HB hw101_2), (hcI HB hw101_3), (hcI HB hw101_4), (hcI HB hw101_5), (hcI HB hw101_6)⟩ (fun hHeld => ?_)); clear hK K; (refine nP (some 18) (h := ?_)); (refine pB 7 (cn 8 8) (some 19) HT_ (h := ?_)); (refine done_ (done_of HT_.out (by kernel_rfl)) ?_); (have p103 : 0 ≤ (x5_1 : Int) := odt); (have q103 : x5_1 < (l0.length : Int) := odt); (obtain ⟨ad103, A103_4, c103_4, e103, hx103_0, hx103_1, hx103_2, hx103_3, hx103_4, hx103_5, hx103_6, hl103_4, hi103_4⟩ := at_T31 HR0.out x5_1 p103 q103); (obtain rfl : ad101 = ad103 := (by injection e103)); ((try (have ea_ := Option.some.inj (hx103_4.symm.trans hw101_4); injection ea_ with ea_ en_ ec_; subst ea_; subst ec_; clear en_))); (replace hx103_0 := hcI HB hx103_0); (replace hx103_1 := hcI HB hx103_1); (replace hx103_2 := hcI HB hx103_2); (replace hx103_3 := hcI HB hx103_3); (replace hx103_4 := hcI HB hx103_4); (replace hx103_5 := hcI HB hx103_5); (replace hx103_6 := hcI HB hx103_6); (have HR103_4 := Aside0.mk hi103_4); (have HC103_4 := Aside0.mk hl103_4); clear hi103_4 hl103_4; (replace p103 := eq_true p103); (replace q103 := eq_true q103); (have p104 : 0 ≤ (x5_1 : Int) := odt); (have q104 : x5_1 < (l0.length : Int) := odt); (obtain ⟨ad104, A104_4, c104_4, e104, hx104_0, hx104_1, hx104_2, hx104_3, hx104_4, hx104_5, hx104_6, hl104_4, hi104_4⟩ := at_T31 HR0.out x5_1 p104 q104); (obtain rfl : ad101 = ad104 := (by injection e104)); (replace hx104_0 := hcI HB hx104_0); (replace hx104_1 := hcI HB hx104_1); (replace hx104_2 := hcI HB hx104_2); (replace hx104_3 := hcI HB hx104_3); (replace hx104_4 := hcI HB hx104_4); (replace hx104_5 := hcI HB hx104_5); (replace hx104_6 := hcI HB hx104_6); (have HR104_4 := Aside0.mk hi104_4); (have HC104_4 := Aside0.mk hl104_4); clear hi104_4 hl104_4; (replace p104 := eq_true p104); (replace q104 := eq_true q104); (have ea_ := Option.some.inj (hx103_4.symm.trans hx104_4)); (injection ea_ with ea_ en_ ec_); subst ea_; subst ec_; clear en_; (have p105 : 0 ≤ (x5_1 : Int) := odt); (have q105 : x5_1 < (l0.length : Int) := odt); (obtain ⟨ad105, A105_4, c105_4, e105, hx105_0, hx105_1, hx105_2, hx105_3, hx105_4, hx105_5, hx105_6, hl105_4, hi105_4⟩ := at_T31 HR0.out x5_1 p105 q105); (obtain rfl : ad101 = ad105 := (by injection e105)); (replace hx105_0 := hcI HB hx105_0); (replace hx105_1 := hcI HB hx105_1); (replace hx105_2 := hcI HB hx105_2); (replace hx105_3 := hcI HB hx105_3); (replace hx105_4 := hcI HB hx105_4); (replace hx105_5 := hcI HB hx105_5); (replace hx105_6 := hcI HB hx105_6); (have HR105_4 := Aside0.mk hi105_4); (have HC105_4 := Aside0.mk hl105_4); clear hi105_4 hl105_4; (replace p105 := eq_true p105); (replace q105 := eq_true q105); (have ea_ := Option.some.inj (hx103_4.symm.trans hx105_4)); (injection ea_ with ea_ en_ ec_); subst ea_; subst ec_; clear en_; (try go_wp2); go_ret; (exact ⟨rfl, eI HB⟩)
       ·rw [if_neg c8] at H
        (have c8b0 : (((rd_T31 l0 x5_1).f2) == (wrap64 ((wrap64 (x1_1 + 1)) + 1))) = false := beq_eq_false_iff_ne.mpr c8); (have c8b1 : (((rd_T31 l0 x5_1).f2) != (wrap64 ((wrap64 (x1_1 + 1)) + 1))) = true := bne_iff_ne.mpr c8); (obtain rfl := Option.some.inj H); (try go_wp2); (have n0_ := Aside0.mk (below_drew1 HB.out)); clear HB; (have HB := n0_); clear n0_; (have p101 : 0 ≤ (x5_1 : Int) := odt); (have q101 : x5_1 < (l0.length : Int) := odt); (obtain ⟨ad101, A101_4, c101_4, e101, hx101_0, hx101_1, hx101_2, hx101_3, hx101_4, hx101_5, hx101_6, hl101_4, hi101_4⟩ := at_T31 HR0.out x5_1 p101 q101); (have hw101_6 := hx101_6); (have hw101_5 := hx101_5); (have hw101_4 := hx101_4); (have hw101_3 := hx101_3); (have hw101_2 := hx101_2); (have hw101_1 := hx101_1); (have hw101_0 := hx101_0); (cases e101); (replace hx101_0 := hcI HB hx101_0); (replace hx101_1 := hcI HB hx101_1); (replace hx101_2 := hcI HB hx101_2); (replace hx101_3 := hcI HB hx101_3); (replace hx101_4 := hcI HB hx101_4); (replace hx101_5 := hcI HB hx101_5); (replace hx101_6 := hcI HB hx101_6); (have HR101_4 := Aside0.mk hi101_4); (have HC101_4 := Aside0.mk hl101_4); clear hi101_4 hl101_4; (replace p101 := eq_true p101); (replace q101 := eq_true q101); (refine start_ (n := 8) (S := fun w' => w'.cell? (ad101.add ((x5_1).toNat * 7)) = some (.string ((rd_T31 l0 x5_1).f0)) ∧ w'.cell? ⟨(ad101.add ((x5_1).toNat * 7)).block, (ad101.add ((x5_1).toNat * 7)).off + 1, none⟩ = some (.int .i64 ((rd_T31 l0 x5_1).f1)) ∧ w'.cell? ⟨(ad101.add ((x5_1).toNat * 7)).block, (ad101.add ((x5_1).toNat * 7)).off + 2, none⟩ = some (.int .i64 ((rd_T31 l0 x5_1).f2)) ∧ w'.cell? ⟨(ad101.add ((x5_1).toNat * 7)).block, (ad101.add ((x5_1).toNat * 7)).off + 3, none⟩ = some (.int .i64 ((rd_T31 l0 x5_1).f3)) ∧ w'.cell? ⟨(ad101.add ((x5_1).toNat * 7)).block, (ad101.add ((x5_1).toNat * 7)).off + 4, none⟩ = some (.slice A101_4 ((rd_T31 l0 x5_1).f4).length c101_4) ∧ w'.cell? ⟨(ad101.add ((x5_1).toNat * 7)).block, (ad101.add ((x5_1).toNat * 7)).off + 5, none⟩ = some (.bool ((rd_T31 l0 x5_1).f5)) ∧ w'.cell? ⟨(ad101.add ((x5_1).toNat * 7)).block, (ad101.add ((x5_1).toNat * 7)).off + 6, none⟩ = some (.string ((rd_T31 l0 x5_1).f6))) (ds := []) (cn 8 0) (by kernel_rfl) rfl (by kernel_rfl) ⟨(hcI HB hw101_0), (hcI HB hw101_1), (hcI HB hw101_2), (hcI HB hw101_3), (hcI HB hw101_4), (hcI HB hw101_5), (hcI HB hw101_6)⟩ (fun hHeld => ?_); refine with_tabW laws_heldFieldS.tab4 laws_heldFieldS.bits4 (fun HT_ HW_ => ?_)); (generalize wr.drew = w33 at HB HR101_4 hx101_0 hx101_1 hx101_2 hx101_3 hx101_4 hx101_5 hx101_6 hHeld ⊢); (refine pB 0 (cn 8 1) (some 12) HT_ (h := ?_)); (refine pB 1 (cn 8 2) (some 13) HT_ (h := ?_)); (refine pB 2 (cn 8 3) (some 14) HT_ (h := ?_)); (refine pB 3 (cn 8 4) (some 15) HT_ (h := ?_)); (refine pB 5 (cb 8 47) (some 17) HT_ (h := ?_)); (refine tB 4 (cn 8 6) (some 16) HT_ HW_ hHeld (h := ?_)); (refine oN 6 (some 18) (cn 8 7) HT_ (fun K hK => ?_)); (refine gG Tryd.func17 #[.int .i64 x1_1] ?_); (with_reducible refine (laws_markText.calls k1 x1_1 t102 _ A5.out).mono ?_); (rintro e w34 ⟨rfl, hb⟩); (refine ⟨_, rfl, ?_⟩); (have n0_ := Aside0.mk (sI hb HB)); clear HB
        (have HB := n0_); clear n0_; ((try clear hb)); ((try clear hb2)); ((try clear hk)); ((try clear hi)); (refine hK.out _ _ ⟨(hcI HB hw101_0), (hcI HB hw101_1), (hcI HB hw101_2), (hcI HB hw101_3), (hcI HB hw101_4), (hcI HB hw101_5), (hcI HB hw101_6)⟩ (fun hHeld => ?_)); clear hK K; (refine nP (some 18) (h := ?_)); (refine pB 7 (cn 8 8) (some 19) HT_ (h := ?_)); (refine done_ (done_of HT_.out (by kernel_rfl)) ?_); (have p103 : 0 ≤ (x5_1 : Int) := odt); (have q103 : x5_1 < (l0.length : Int) := odt); (obtain ⟨ad103, A103_4, c103_4, e103, hx103_0, hx103_1, hx103_2, hx103_3, hx103_4, hx103_5, hx103_6, hl103_4, hi103_4⟩ := at_T31 HR0.out x5_1 p103 q103); (obtain rfl : ad101 = ad103 := (by injection e103)); ((try (have ea_ := Option.some.inj (hx103_4.symm.trans hw101_4); injection ea_ with ea_ en_ ec_; subst ea_; subst ec_; clear en_))); (replace hx103_0 := hcI HB hx103_0); (replace hx103_1 := hcI HB hx103_1); (replace hx103_2 := hcI HB hx103_2); (replace hx103_3 := hcI HB hx103_3); (replace hx103_4 := hcI HB hx103_4); (replace hx103_5 := hcI HB hx103_5); (replace hx103_6 := hcI HB hx103_6); (have HR103_4 := Aside0.mk hi103_4); (have HC103_4 := Aside0.mk hl103_4); clear hi103_4 hl103_4; (replace p103 := eq_true p103); (replace q103 := eq_true q103); (have p104 : 0 ≤ (x5_1 : Int) := odt); (have q104 : x5_1 < (l0.length : Int) := odt); (obtain ⟨ad104, A104_4, c104_4, e104, hx104_0, hx104_1, hx104_2, hx104_3, hx104_4, hx104_5, hx104_6, hl104_4, hi104_4⟩ := at_T31 HR0.out x5_1 p104 q104); (obtain rfl : ad101 = ad104 := (by injection e104)); (replace hx104_0 := hcI HB hx104_0); (replace hx104_1 := hcI HB hx104_1); (replace hx104_2 := hcI HB hx104_2); (replace hx104_3 := hcI HB hx104_3); (replace hx104_4 := hcI HB hx104_4); (replace hx104_5 := hcI HB hx104_5); (replace hx104_6 := hcI HB hx104_6); (have HR104_4 := Aside0.mk hi104_4); (have HC104_4 := Aside0.mk hl104_4); clear hi104_4 hl104_4; (replace p104 := eq_true p104); (replace q104 := eq_true q104); (have ea_ := Option.some.inj (hx103_4.symm.trans hx104_4)); (injection ea_ with ea_ en_ ec_); subst ea_; subst ec_; clear en_; (try go_wp2); go_ret; (exact ⟨rfl, eI HB⟩)
      ·rw [if_neg c7] at H
       (have c7b0 : (((rd_T31 l0 x5_1).f1) == (wrap64 (x1_1 + 1))) = false := beq_eq_false_iff_ne.mpr c7); (have c7b1 : (((rd_T31 l0 x5_1).f1) != (wrap64 (x1_1 + 1))) = true := bne_iff_ne.mpr c7); (obtain rfl := Option.some.inj H); (try go_wp2); (have n0_ := Aside0.mk (below_drew1 HB.out)); clear HB; (have HB := n0_); clear n0_; (have p101 : 0 ≤ (x5_1 : Int) := odt); (have q101 : x5_1 < (l0.length : Int) := odt); (obtain ⟨ad101, A101_4, c101_4, e101, hx101_0, hx101_1, hx101_2, hx101_3, hx101_4, hx101_5, hx101_6, hl101_4, hi101_4⟩ := at_T31 HR0.out x5_1 p101 q101); (have hw101_6 := hx101_6); (have hw101_5 := hx101_5); (have hw101_4 := hx101_4); (have hw101_3 := hx101_3); (have hw101_2 := hx101_2); (have hw101_1 := hx101_1); (have hw101_0 := hx101_0); (cases e101); (replace hx101_0 := hcI HB hx101_0); (replace hx101_1 := hcI HB hx101_1); (replace hx101_2 := hcI HB hx101_2); (replace hx101_3 := hcI HB hx101_3); (replace hx101_4 := hcI HB hx101_4); (replace hx101_5 := hcI HB hx101_5); (replace hx101_6 := hcI HB hx101_6); (have HR101_4 := Aside0.mk hi101_4); (have HC101_4 := Aside0.mk hl101_4); clear hi101_4 hl101_4; (replace p101 := eq_true p101); (replace q101 := eq_true q101); (refine start_ (n := 8) (S := fun w' => w'.cell? (ad101.add ((x5_1).toNat * 7)) = some (.string ((rd_T31 l0 x5_1).f0)) ∧ w'.cell? ⟨(ad101.add ((x5_1).toNat * 7)).block, (ad101.add ((x5_1).toNat * 7)).off + 1, none⟩ = some (.int .i64 ((rd_T31 l0 x5_1).f1)) ∧ w'.cell? ⟨(ad101.add ((x5_1).toNat * 7)).block, (ad101.add ((x5_1).toNat * 7)).off + 2, none⟩ = some (.int .i64 ((rd_T31 l0 x5_1).f2)) ∧ w'.cell? ⟨(ad101.add ((x5_1).toNat * 7)).block, (ad101.add ((x5_1).toNat * 7)).off + 3, none⟩ = some (.int .i64 ((rd_T31 l0 x5_1).f3)) ∧ w'.cell? ⟨(ad101.add ((x5_1).toNat * 7)).block, (ad101.add ((x5_1).toNat * 7)).off + 4, none⟩ = some (.slice A101_4 ((rd_T31 l0 x5_1).f4).length c101_4) ∧ w'.cell? ⟨(ad101.add ((x5_1).toNat * 7)).block, (ad101.add ((x5_1).toNat * 7)).off + 5, none⟩ = some (.bool ((rd_T31 l0 x5_1).f5)) ∧ w'.cell? ⟨(ad101.add ((x5_1).toNat * 7)).block, (ad101.add ((x5_1).toNat * 7)).off + 6, none⟩ = some (.string ((rd_T31 l0 x5_1).f6))) (ds := []) (cn 8 0) (by kernel_rfl) rfl (by kernel_rfl) ⟨(hcI HB hw101_0), (hcI HB hw101_1), (hcI HB hw101_2), (hcI HB hw101_3), (hcI HB hw101_4), (hcI HB hw101_5), (hcI HB hw101_6)⟩ (fun hHeld => ?_); refine with_tabW laws_heldFieldS.tab4 laws_heldFieldS.bits4 (fun HT_ HW_ => ?_)); (generalize wr.drew = w35 at HB HR101_4 hx101_0 hx101_1 hx101_2 hx101_3 hx101_4 hx101_5 hx101_6 hHeld ⊢); (refine pB 0 (cn 8 1) (some 12) HT_ (h := ?_)); (refine pB 1 (cn 8 2) (some 13) HT_ (h := ?_)); (refine pB 2 (cn 8 3) (some 14) HT_ (h := ?_)); (refine pB 3 (cn 8 4) (some 15) HT_ (h := ?_)); (refine pB 5 (cb 8 47) (some 17) HT_ (h := ?_)); (refine tB 4 (cn 8 6) (some 16) HT_ HW_ hHeld (h := ?_)); (refine oN 6 (some 18) (cn 8 7) HT_ (fun K hK => ?_)); (refine gG Tryd.func17 #[.int .i64 x1_1] ?_); (with_reducible refine (laws_markText.calls k1 x1_1 t102 _ A5.out).mono ?_); (rintro e w36 ⟨rfl, hb⟩); (refine ⟨_, rfl, ?_⟩); (have n0_ := Aside0.mk (sI hb HB)); clear HB; (have HB := n0_); clear n0_
       ((try clear hb)); ((try clear hb2)); ((try clear hk)); ((try clear hi)); (refine hK.out _ _ ⟨(hcI HB hw101_0), (hcI HB hw101_1), (hcI HB hw101_2), (hcI HB hw101_3), (hcI HB hw101_4), (hcI HB hw101_5), (hcI HB hw101_6)⟩ (fun hHeld => ?_)); clear hK K; (refine nP (some 18) (h := ?_)); (refine pB 7 (cn 8 8) (some 19) HT_ (h := ?_)); (refine done_ (done_of HT_.out (by kernel_rfl)) ?_); (have p103 : 0 ≤ (x5_1 : Int) := odt); (have q103 : x5_1 < (l0.length : Int) := odt); (obtain ⟨ad103, A103_4, c103_4, e103, hx103_0, hx103_1, hx103_2, hx103_3, hx103_4, hx103_5, hx103_6, hl103_4, hi103_4⟩ := at_T31 HR0.out x5_1 p103 q103); (obtain rfl : ad101 = ad103 := (by injection e103)); ((try (have ea_ := Option.some.inj (hx103_4.symm.trans hw101_4); injection ea_ with ea_ en_ ec_; subst ea_; subst ec_; clear en_))); (replace hx103_0 := hcI HB hx103_0); (replace hx103_1 := hcI HB hx103_1); (replace hx103_2 := hcI HB hx103_2); (replace hx103_3 := hcI HB hx103_3); (replace hx103_4 := hcI HB hx103_4); (replace hx103_5 := hcI HB hx103_5); (replace hx103_6 := hcI HB hx103_6); (have HR103_4 := Aside0.mk hi103_4); (have HC103_4 := Aside0.mk hl103_4); clear hi103_4 hl103_4; (replace p103 := eq_true p103); (replace q103 := eq_true q103); (try go_wp2); go_ret; (exact ⟨rfl, eI HB⟩)
     ·rw [if_neg c6] at H
      (have c6b0 : (((rd_T31 l0 x5_1).f0).toList == t102.toList) = false := beq_eq_false_iff_ne.mpr c6); (have c6b1 : (((rd_T31 l0 x5_1).f0).toList != t102.toList) = true := bne_iff_ne.mpr c6); (obtain rfl := Option.some.inj H); (try go_wp2); (have n0_ := Aside0.mk (below_drew1 HB.out)); clear HB; (have HB := n0_); clear n0_; (have p101 : 0 ≤ (x5_1 : Int) := odt); (have q101 : x5_1 < (l0.length : Int) := odt); (obtain ⟨ad101, A101_4, c101_4, e101, hx101_0, hx101_1, hx101_2, hx101_3, hx101_4, hx101_5, hx101_6, hl101_4, hi101_4⟩ := at_T31 HR0.out x5_1 p101 q101); (have hw101_6 := hx101_6); (have hw101_5 := hx101_5); (have hw101_4 := hx101_4); (have hw101_3 := hx101_3); (have hw101_2 := hx101_2); (have hw101_1 := hx101_1); (have hw101_0 := hx101_0); (cases e101); (replace hx101_0 := hcI HB hx101_0); (replace hx101_1 := hcI HB hx101_1); (replace hx101_2 := hcI HB hx101_2); (replace hx101_3 := hcI HB hx101_3); (replace hx101_4 := hcI HB hx101_4); (replace hx101_5 := hcI HB hx101_5); (replace hx101_6 := hcI HB hx101_6); (have HR101_4 := Aside0.mk hi101_4); (have HC101_4 := Aside0.mk hl101_4); clear hi101_4 hl101_4; (replace p101 := eq_true p101); (replace q101 := eq_true q101); (refine start_ (n := 8) (S := fun w' => w'.cell? (ad101.add ((x5_1).toNat * 7)) = some (.string ((rd_T31 l0 x5_1).f0)) ∧ w'.cell? ⟨(ad101.add ((x5_1).toNat * 7)).block, (ad101.add ((x5_1).toNat * 7)).off + 1, none⟩ = some (.int .i64 ((rd_T31 l0 x5_1).f1)) ∧ w'.cell? ⟨(ad101.add ((x5_1).toNat * 7)).block, (ad101.add ((x5_1).toNat * 7)).off + 2, none⟩ = some (.int .i64 ((rd_T31 l0 x5_1).f2)) ∧ w'.cell? ⟨(ad101.add ((x5_1).toNat * 7)).block, (ad101.add ((x5_1).toNat * 7)).off + 3, none⟩ = some (.int .i64 ((rd_T31 l0 x5_1).f3)) ∧ w'.cell? ⟨(ad101.add ((x5_1).toNat * 7)).block, (ad101.add ((x5_1).toNat * 7)).off + 4, none⟩ = some (.slice A101_4 ((rd_T31 l0 x5_1).f4).length c101_4) ∧ w'.cell? ⟨(ad101.add ((x5_1).toNat * 7)).block, (ad101.add ((x5_1).toNat * 7)).off + 5, none⟩ = some (.bool ((rd_T31 l0 x5_1).f5)) ∧ w'.cell? ⟨(ad101.add ((x5_1).toNat * 7)).block, (ad101.add ((x5_1).toNat * 7)).off + 6, none⟩ = some (.string ((rd_T31 l0 x5_1).f6))) (ds := []) (cn 8 0) (by kernel_rfl) rfl (by kernel_rfl) ⟨(hcI HB hw101_0), (hcI HB hw101_1), (hcI HB hw101_2), (hcI HB hw101_3), (hcI HB hw101_4), (hcI HB hw101_5), (hcI HB hw101_6)⟩ (fun hHeld => ?_); refine with_tabW laws_heldFieldS.tab4 laws_heldFieldS.bits4 (fun HT_ HW_ => ?_)); (generalize wr.drew = w37 at HB HR101_4 hx101_0 hx101_1 hx101_2 hx101_3 hx101_4 hx101_5 hx101_6 hHeld ⊢); (refine pB 0 (cn 8 1) (some 12) HT_ (h := ?_)); (refine pB 1 (cn 8 2) (some 13) HT_ (h := ?_)); (refine pB 2 (cn 8 3) (some 14) HT_ (h := ?_)); (refine pB 3 (cn 8 4) (some 15) HT_ (h := ?_)); (refine pB 5 (cb 8 47) (some 17) HT_ (h := ?_)); (refine tB 4 (cn 8 6) (some 16) HT_ HW_ hHeld (h := ?_)); (refine oN 6 (some 18) (cn 8 7) HT_ (fun K hK => ?_)); (refine gG Tryd.func17 #[.int .i64 x1_1] ?_); (with_reducible refine (laws_markText.calls k1 x1_1 t102 _ A5.out).mono ?_); (rintro e w38 ⟨rfl, hb⟩); (refine ⟨_, rfl, ?_⟩); (have n0_ := Aside0.mk (sI hb HB)); clear HB; (have HB := n0_); clear n0_
      ((try clear hb)); ((try clear hb2)); ((try clear hk)); ((try clear hi)); (refine hK.out _ _ ⟨(hcI HB hw101_0), (hcI HB hw101_1), (hcI HB hw101_2), (hcI HB hw101_3), (hcI HB hw101_4), (hcI HB hw101_5), (hcI HB hw101_6)⟩ (fun hHeld => ?_)); clear hK K; (refine nP (some 18) (h := ?_)); (refine pB 7 (cn 8 8) (some 19) HT_ (h := ?_)); (refine done_ (done_of HT_.out (by kernel_rfl)) ?_); (try go_wp2); go_ret; (exact ⟨rfl, eI HB⟩)
    ·rw [if_neg c4] at H
     exact absurd H (by simp)
   ·rw [if_neg c3] at H
    (have c3b0 := decide_eq_false c3); clear c3; (obtain rfl := Option.some.inj H); (go_wp2); go_ret; (exact ⟨rfl, eI HB⟩)

end Go.Proofs.YtcjloeeomhiblaaDoor.X
namespace Go.Proofs.YtcjloeeomhiblaaDoor.X
open Go.RowKit Go.Proofs.YtcjloeeomhiblaaDoorW.PrintWords Go.Proofs.YtcjloeeomhiblaaDoorW.PrintLast Go.Proofs.YtcjloeeomhiblaaDoorW.PrintMore
set_option linter.unusedVariables false
set_option linter.unusedSimpArgs false
def laws_FnExactParseForm.f (k : Nat) (a0 : ByteArray) : Option Bool := if (a0.size : Int) > 1048576 then some true else (spec_ParseForm.f k a0).bind fun ⟨t1, t2⟩ => (impl_ParseForm.f k a0).bind fun ⟨t13, t14⟩ => (laws_eqFieldS.f k t13 t1).bind fun t25 => if t25 = true then if t14 = t2 then (laws_markFieldS.f k t13 1).bind fun ⟨t32, t33⟩ => (laws_heldFieldS.f k t33 1).bind fun t38 => if ¬ t38 < 0 then if t38 = t32 then (impl_ParseForm.f k a0).bind fun ⟨t43, t44⟩ => (laws_eqFieldS.f k t43 t1).bind fun t55 => if t55 = true then if t44 = t2 then (laws_heldFieldS.f k t33 1).bind fun t62 => if ¬ t62 < 0 then if t62 = t32 then some true else none else none else none else none else none else none else none else none
set_option maxHeartbeats 8000000 in
set_option maxRecDepth 100000 in
theorem laws_FnExactParseForm.calls (k : Nat) (a0 : ByteArray) (r : Bool) (w : World) (hG : GE w) (h : laws_FnExactParseForm.f k a0 = some r) :
  Calls Tryd.prog 3 #[.string a0] w fun e w' => e = .returned (.bool r) ∧ Below w.heap.size w w' := by
 have HG := Aside0.mk hG
 have HB := Aside0.mk (Below.refl w.heap.size w)
 have HS := Aside0.mk (Nat.le_refl w.heap.size)
 unfold laws_FnExactParseForm.f at h
 have H := h
 clear h
 by_cases c67 : (a0.size : Int) > 1048576
 ·rw [if_pos c67] at H
  have c67b := decide_eq_true c67
  clear c67
  obtain rfl := Option.some.inj H
  go_enter Tryd.func3, Tryd.ntmps3
  go_wp2_with (fail)
  go_ret
  exact ⟨rfl, eI HB⟩
 rw [if_neg c67] at H
 have c67b := decide_eq_false c67
 clear c67
 replace H := obS H; obtain ⟨⟨t1, t2⟩, A_3, H⟩ := H
 replace H := obS H; obtain ⟨⟨t13, t14⟩, A_15, H⟩ := H
 replace H := obS H; obtain ⟨t25, A_26, H⟩ := H
 replace H := needS H; obtain ⟨c68, H⟩ := H
 subst c68
 replace H := needS H; obtain ⟨c69, H⟩ := H
 have c69b := bne_eq_false_iff_eq.mpr c69
 have c69d := beq_iff_eq.mpr c69
 clear c69
 replace H := obS H; obtain ⟨⟨t32, t33⟩, A_34, H⟩ := H
 replace H := obS H; obtain ⟨t38, A_39, H⟩ := H
 replace H := needS H; obtain ⟨c70, H⟩ := H
 have c70b := decide_eq_false c70
 clear c70
 replace H := needS H; obtain ⟨c71, H⟩ := H
 have c71b := bne_eq_false_iff_eq.mpr c71
 have c71d := beq_iff_eq.mpr c71
 clear c71
 replace H := obS H; obtain ⟨⟨t43, t44⟩, A_45, H⟩ := H
 replace H := obS H; obtain ⟨t55, A_56, H⟩ := H
 replace H := needS H; obtain ⟨c72, H⟩ := H
 subst c72
 replace H := needS H; obtain ⟨c73, H⟩ := H
 have c73b := bne_eq_false_iff_eq.mpr c73
 have c73d := beq_iff_eq.mpr c73
 clear c73
 replace H := obS H; obtain ⟨t62, A_63, H⟩ := H
 replace H := needS H; obtain ⟨c74, H⟩ := H
 have c74b := decide_eq_false c74
 clear c74
 replace H := needS H; obtain ⟨c75, H⟩ := H
 have c75b := bne_eq_false_iff_eq.mpr c75
 have c75d := beq_iff_eq.mpr c75
 clear c75
 obtain rfl := Option.some.inj H
 go_enter Tryd.func3, Tryd.ntmps3
 go_wp2_with (first | ((with_reducible refine gate_callee (f := 4) rfl ?_); refine gL (some 16) Tryd.func4 #[.string a0] ?_; (with_reducible refine (spec_ParseForm.calls k _ _ _ _ A_3.out).mono ?_); rintro e w_4 ⟨v6, rfl, ho5, hb⟩; refine ⟨_, rfl, ?_⟩; obtain ⟨lo7, hi8, hle_, hsz_, hin_⟩ := newRng HB HS hb; have ho_0 := Aside0.mk (hin_.s ho5); have n0_ := Aside0.mk (sI hb HB); have n1_ := Aside0.mk (hsz_); clear HB HS; have HB := n0_; have HS := n1_; clear n0_ n1_ hb; have HE9 := Aside0.mk hle_; clear hle_ hsz_ hin_ ho5; have HO12 := ho_0; clear ho_0; obtain ⟨Ao10, co11, e_⟩ := Kd.R_slice (Kd.S_R HO12.out); subst e_) | ((with_reducible refine gate_callee (f := 5) rfl ?_); refine gL (some 21) Tryd.func5 #[.string a0] ?_; (with_reducible refine (impl_ParseForm.calls k _ _ _ _ (GE.below HG.out (eI HB)) A_15.out).mono ?_); rintro e w_16 ⟨v18, rfl, ho17, hb⟩; refine ⟨_, rfl, ?_⟩; obtain ⟨lo19, hi20, hle_, hsz_, hin_⟩ := newRng HB HS hb; have ho_0 := Aside0.mk (hin_.s ho17); have n0_ := Aside0.mk (sbI hb HO12); have n1_ := Aside0.mk (sI hb HB); have n2_ := Aside0.mk (hsz_); clear HO12 HB HS; have HO12 := n0_; have HB := n1_; have HS := n2_; clear n0_ n1_ n2_ hb; have HE21 := Aside0.mk hle_; clear hle_ hsz_ hin_ ho17; have HO24 := ho_0; clear ho_0; obtain ⟨Ao22, co23, e_⟩ := Kd.R_slice (Kd.S_R HO24.out); subst e_) | ((with_reducible refine gate_callee (f := 6) rfl ?_); refine gL (some 26) Tryd.func6 #[.slice Ao22 t13.length co23, .slice Ao10 t1.length co11] ?_; (with_reducible refine (laws_eqFieldS.calls k _ _ _ _ _ _ _ _ ?s_28 ?s_29 ?s_30 ?s_31 A_26.out ⟨rfl⟩).mono ?_); (case s_28 => exact (scI HO24).1); (case s_29 => exact (scR HO24).2); (case s_30 => exact (scI HO12).1); (case s_31 => exact (scR HO12).2); rintro e w_27 ⟨rfl, hb⟩; refine ⟨_, rfl, ?_⟩; have n0_ := Aside0.mk (sbI hb HO12); have n1_ := Aside0.mk (sbI hb HO24); have n2_ := Aside0.mk (sI hb HB); have n3_ := Aside0.mk (leI hb HS); clear HO12 HO24 HB HS; have HO12 := n0_; have HO24 := n1_; have HB := n2_; have HS := n3_; clear n0_ n1_ n2_ n3_ hb) | ((with_reducible refine gate_callee (f := 7) rfl ?_); refine gL (some 35) Tryd.func7 #[.slice Ao22 t13.length co23, .int .i64 1] ?_; (with_reducible refine (laws_markFieldS.calls k (fun k_ => lo19 ≤ k_ ∧ k_ < hi20) _ _ _ _ _ w _ (eI HB) (sbI0 HO24) A_34.out).mono ?_); rintro e w_35 ⟨rfl, ho36, hb, hk⟩; refine ⟨_, rfl, ?_⟩; have hkp := keptRng (lo := lo19) (hi := hi20) hk (fun k_ h_ => by first | exact h_ | exact h_.elim id id); have n0_ := Aside0.mk (ksI hkp HO12 (by have h0_ := HE9.out; have h1_ := HE21.out; omega)); have n1_ := Aside0.mk (Kd.S_mono (ok' := fun _ => True) ho36 (fun _ _ => trivial)); have n2_ := Aside0.mk (hb); have n3_ := Aside0.mk (leK hk HS); clear HO12 HO24 HB HS; have HO12 := n0_; have HO24 := n1_; have HB := n2_; have HS := n3_; clear n0_ n1_ n2_ n3_ hb hk hkp ho36) | ((with_reducible refine gate_callee (f := 8) rfl ?_); refine gL (some 38) Tryd.func8 #[.slice Ao22 t13.length co23, .int .i64 1] ?_; refine calls_of_args (args' := #[.slice Ao22 t33.length co23, .int .i64 1]) (by rw [← slI HO24]) ?_; (with_reducible refine (laws_heldFieldS.calls k _ _ _ _ _ _ ?s_41 ?s_42 A_39.out).mono ?_); (case s_41 => exact (scI HO24).1); (case s_42 => exact (scR HO24).2); rintro e w_40 ⟨rfl, hb⟩; refine ⟨_, rfl, ?_⟩; have n0_ := Aside0.mk (sbI hb HO12); have n1_ := Aside0.mk (sbI hb HO24); have n2_ := Aside0.mk (sI hb HB); have n3_ := Aside0.mk (leI hb HS); clear HO12 HO24 HB HS; have HO12 := n0_; have HO24 := n1_; have HB := n2_; have HS := n3_; clear n0_ n1_ n2_ n3_ hb) | ((with_reducible refine gate_callee (f := 5) rfl ?_); refine gL (some 46) Tryd.func5 #[.string a0] ?_; (with_reducible refine (impl_ParseForm.calls k _ _ _ _ (GE.below HG.out (eI HB)) A_45.out).mono ?_); rintro e w_46 ⟨v48, rfl, ho47, hb⟩; refine ⟨_, rfl, ?_⟩; obtain ⟨lo49, hi50, hle_, hsz_, hin_⟩ := newRng HB HS hb; have ho_0 := Aside0.mk (hin_.s ho47); have n0_ := Aside0.mk (sbI hb HO12); have n1_ := Aside0.mk (sbI hb HO24); have n2_ := Aside0.mk (sI hb HB); have n3_ := Aside0.mk (hsz_); clear HO12 HO24 HB HS; have HO12 := n0_; have HO24 := n1_; have HB := n2_; have HS := n3_; clear n0_ n1_ n2_ n3_ hb; have HE51 := Aside0.mk hle_; clear hle_ hsz_ hin_ ho47; have HO54 := ho_0; clear ho_0; obtain ⟨Ao52, co53, e_⟩ := Kd.R_slice (Kd.S_R HO54.out); subst e_) | ((with_reducible refine gate_callee (f := 6) rfl ?_); refine gL (some 51) Tryd.func6 #[.slice Ao52 t43.length co53, .slice Ao10 t1.length co11] ?_; (with_reducible refine (laws_eqFieldS.calls k _ _ _ _ _ _ _ _ ?s_58 ?s_59 ?s_60 ?s_61 A_56.out ⟨rfl⟩).mono ?_); (case s_58 => exact (scI HO54).1); (case s_59 => exact (scR HO54).2); (case s_60 => exact (scI HO12).1); (case s_61 => exact (scR HO12).2); rintro e w_57 ⟨rfl, hb⟩; refine ⟨_, rfl, ?_⟩; have n0_ := Aside0.mk (sbI hb HO12); have n1_ := Aside0.mk (sbI hb HO24); have n2_ := Aside0.mk (sbI hb HO54); have n3_ := Aside0.mk (sI hb HB); have n4_ := Aside0.mk (leI hb HS); clear HO12 HO24 HO54 HB HS; have HO12 := n0_; have HO24 := n1_; have HO54 := n2_; have HB := n3_; have HS := n4_; clear n0_ n1_ n2_ n3_ n4_ hb) | ((with_reducible refine gate_callee (f := 8) rfl ?_); refine gL (some 60) Tryd.func8 #[.slice Ao22 t13.length co23, .int .i64 1] ?_; refine calls_of_args (args' := #[.slice Ao22 t33.length co23, .int .i64 1]) (by rw [← slI HO24]) ?_; (with_reducible refine (laws_heldFieldS.calls k _ _ _ _ _ _ ?s_65 ?s_66 A_63.out).mono ?_); (case s_65 => exact (scI HO24).1); (case s_66 => exact (scR HO24).2); rintro e w_64 ⟨rfl, hb⟩; refine ⟨_, rfl, ?_⟩; have n0_ := Aside0.mk (sbI hb HO12); have n1_ := Aside0.mk (sbI hb HO24); have n2_ := Aside0.mk (sbI hb HO54); have n3_ := Aside0.mk (sI hb HB); have n4_ := Aside0.mk (leI hb HS); clear HO12 HO24 HO54 HB HS; have HO12 := n0_; have HO24 := n1_; have HO54 := n2_; have HB := n3_; have HS := n4_; clear n0_ n1_ n2_ n3_ n4_ hb))
 go_ret
 exact ⟨rfl, eI HB⟩
end Go.Proofs.YtcjloeeomhiblaaDoor.X
set_option linter.unusedVariables false
set_option linter.unusedSimpArgs false
namespace Go.Proofs.YtcjloeeomhiblaaDoor.Open
open Go.RowKit Go.Proofs.YtcjloeeomhiblaaDoorW.PrintWords

end Go.Proofs.YtcjloeeomhiblaaDoor.Open
set_option linter.unusedVariables false
namespace Go.Proofs.YtcjloeeomhiblaaDoor.X
open Go.RowKit Go.Proofs.YtcjloeeomhiblaaDoorW.PrintWords Go.Proofs.YtcjloeeomhiblaaDoor.Open
end Go.Proofs.YtcjloeeomhiblaaDoor.X
namespace Go.Proofs.YtcjloeeomhiblaaDoor.X
open Go.RowKit Go.Proofs.YtcjloeeomhiblaaDoorW.PrintWords
def PureFnExactParseForm : Prop := ∀ (a0 : ByteArray), a0.size ≤ 9223372036854775807 → ∃ k, laws_FnExactParseForm.f k a0 = some true
end Go.Proofs.YtcjloeeomhiblaaDoor.X
set_option linter.unusedVariables false
set_option linter.unusedSimpArgs false
namespace Go.Proofs.YtcjloeeomhiblaaDoor.X
open Go.RowKit Go.Proofs.YtcjloeeomhiblaaDoorW.PrintWords Go.Proofs.YtcjloeeomhiblaaDoor.E
theorem l1In_eq (a l h : Int) : spec_l1In.f a l h = some (decide (l ≤ a ∧ a ≤ h)) := by
  unfold spec_l1In.f
  by_cases h1 : a ≥ l
  · rw [if_pos h1]; congr 1; simp [h1]
  · rw [if_neg h1]; congr 1; symm; simp; intro h2; omega
theorem within_eq (a l h : Int) : impl_within.f a l h = some (decide (l ≤ a ∧ a ≤ h)) := by
  unfold impl_within.f
  by_cases h1 : a ≥ l
  · rw [if_pos h1]; congr 1; simp [h1]
  · rw [if_neg h1]; congr 1; symm; simp; intro h2; omega
def nameAt (s : ByteArray) (i : Nat) : Bool := decide (97 ≤ bt s i ∧ bt s i ≤ 122) || (decide (0 < i) && decide (48 ≤ bt s i ∧ bt s i ≤ 57))
def nameB (s : ByteArray) : Bool := decide (1 ≤ (s.size : Int) ∧ (s.size : Int) ≤ 8) && (List.range s.size).all (nameAt s)
theorem isName_ev (s : ByteArray) (hs : s.size ≤ 9223372036854775807) : Ev (fun k => impl_isName.f k s) (nameB s) := by
  have h := ev_all0 (L := fun k i => impl_isName.l0 k s (s.size : Int) i) s.size (nameAt s) false (decide (1 ≤ (s.size : Int) ∧ (s.size : Int) ≤ 8)) (fun _ => Ev.step (fun k => rfl) (ev_neg (by omega) ?_)) ?h1 ?h2
  case refine_1 => simp only [within_eq]; exact ev_now rfl
  case h1 =>
    intro i hi _ hc y hy
    simp only [nameAt, Bool.or_eq_true, Bool.and_eq_true, decide_eq_true_eq] at hc
    refine Ev.step (fun k => rfl) (ev_pos (by omega) (ev_pos (by omega) (ev_pos (by omega) ?_)))
    rw [wrap_succ hi hs]
    repeat' (first | exact hy | (exfalso; omega) | (refine ev_ite (fun _ => ?_) (fun _ => ?_)))
  case h2 =>
    intro i hi _ hc
    simp only [nameAt, Bool.or_eq_false_iff, Bool.and_eq_false_iff, decide_eq_false_iff_not] at hc
    refine Ev.step (fun k => rfl) (ev_pos (by omega) (ev_pos (by omega) (ev_pos (by omega) ?_)))
    rw [wrap_succ hi hs]
    repeat' (first | exact ev_now rfl | (exfalso; omega) | (refine ev_ite (fun _ => ?_) (fun _ => ?_)))
  refine ev_cast h ?_
  unfold nameB
  cases (List.range s.size).all (nameAt s) <;> simp
theorem l7Name_ev (s : ByteArray) (hs : s.size ≤ 9223372036854775807) : Ev (fun k => spec_l7Name.f k s) (nameB s) := by
  unfold spec_l7Name.f
  simp only [l1In_eq]
  have stop : ∀ b, b = false → Ev (fun k => spec_l7Name.j0 k s true) b := fun b hb => hb ▸ Ev.step (fun k => rfl) (ev_now rfl)
  refine ev_ite (fun h1 => ?_) (fun h1 => stop _ ?_)
  case refine_2 => unfold nameB; simp only [Bool.and_eq_false_iff]; left; simpa using h1
  have h1' : 1 ≤ (s.size : Int) ∧ (s.size : Int) ≤ 8 := by simpa using h1
  have h0 : ∀ b : Bool, (97 ≤ bt s 0 ∧ bt s 0 ≤ 122 → b = (List.range s.size).all (nameAt s)) → (¬ (97 ≤ bt s 0 ∧ bt s 0 ≤ 122) → b = false) → b = nameB s := by
    intro b hy hn
    unfold nameB
    rw [decide_eq_true h1', Bool.true_and]
    by_cases c : 97 ≤ bt s 0 ∧ bt s 0 ≤ 122
    · exact hy c
    · rw [hn c]
      symm
      rw [Bool.eq_false_iff]
      intro hall
      have := all_range.1 hall 0 (by omega)
      simp only [nameAt, Nat.lt_irrefl, decide_false, Bool.false_and, Bool.or_false, decide_eq_true_eq] at this
      exact c this
  refine ev_pos (by omega) ?_
  have loop : 97 ≤ bt s 0 ∧ bt s 0 ≤ 122 → Ev (fun k => spec_l7Name.l0 k s 0) ((List.range s.size).all (nameAt s)) := by
    intro hf
    have h := ev_all0 (L := fun k i => spec_l7Name.l0 k s i) s.size (nameAt s) false true (fun _ => Ev.step (fun k => rfl) (ev_neg (by omega) (ev_now rfl))) ?h1 ?h2
    case h1 =>
      intro i hi _ hc y hy
      simp only [nameAt, Bool.or_eq_true, Bool.and_eq_true, decide_eq_true_eq] at hc
      refine Ev.step (fun k => rfl) (ev_pos (by omega) (ev_pos (by omega) ?_))
      rw [wrap_succ hi hs]
      repeat' (first | exact hy | (exfalso; omega) | (refine ev_ite (fun _ => ?_) (fun _ => ?_)))
    case h2 =>
      intro i hi _ hc
      simp only [nameAt, Bool.or_eq_false_iff, Bool.and_eq_false_iff, decide_eq_false_iff_not] at hc
      have hi0 : 0 < i := by
        rcases Nat.eq_zero_or_pos i with e | e
        · subst e; exact absurd hf hc.1
        · exact e
      refine Ev.step (fun k => rfl) (ev_pos (by omega) (ev_pos (by omega) ?_))
      rw [wrap_succ hi hs]
      repeat' (first | exact ev_now rfl | (exfalso; omega) | (refine ev_ite (fun _ => ?_) (fun _ => ?_)))
    refine ev_cast h ?_
    cases (List.range s.size).all (nameAt s) <;> rfl
  refine ev_ite (fun c => stop _ (h0 false (fun h => by exfalso; omega) (fun _ => rfl)).symm) (fun c => ?_)
  by_cases c2 : bt s 0 > 122
  · rw [decide_eq_true c2]
    exact stop _ (h0 false (fun h => by exfalso; omega) (fun _ => rfl)).symm
  · rw [decide_eq_false c2]
    exact Ev.step (fun k => rfl) (ev_cast (loop ⟨by omega, by omega⟩) (h0 _ (fun _ => rfl) (fun h => absurd (And.intro (show 97 ≤ bt s 0 by omega) (show bt s 0 ≤ 122 by omega)) h)))
end Go.Proofs.YtcjloeeomhiblaaDoor.X
set_option linter.unusedVariables false
set_option linter.unusedSimpArgs false
namespace Go.Proofs.YtcjloeeomhiblaaDoor.X
open Go.RowKit Go.Proofs.YtcjloeeomhiblaaDoorW.PrintWords Go.Proofs.YtcjloeeomhiblaaDoor.E
abbrev Field := S31
abbrev zF : Field := z31
/-- What a reading tells of a field's sizes. -/
def fine (f : Field) : Prop := f.f0.size ≤ 9223372036854775807 ∧ f.f4.length ≤ 9223372036854775807 ∧ (∀ s ∈ f.f4, s.size ≤ 9223372036854775807) ∧ f.f6.size ≤ 9223372036854775807
abbrev fidx (form : List Field) (n : ByteArray) : Int := idxG (fun x : Field => x.f0.toList == n.toList) 0 form
theorem l23Find_ev (form : List Field) (n : ByteArray) (hl : form.length ≤ 9223372036854775807) : Ev (fun k => spec_l23Find.f k form n) (fidx form n) := by
  have h := ev_walk (L := fun k i => spec_l23Find.l0 k form n i) (G := fun i r => idxG (fun x : Field => x.f0.toList == n.toList) i r) form (Ev.step (fun k => rfl) (ev_neg (by omega) (ev_now rfl))) ?step
  case step =>
    intro i x r hi hd hx hk
    refine Ev.step (fun k => rfl) (ev_pos (by omega) (ev_pos (by omega) ?_))
    simp only [rd_T31, Int.toNat_natCast, hx]
    by_cases c : x.f0.toList = n.toList
    · exact ev_pos c (ev_now (by simp [idxG, c]))
    · refine ev_neg c ?_
      rw [wrap_succ hi hl]
      exact ev_cast hk (by simp [idxG, c])
  exact h
theorem fieldOf_eq (form : List Field) (n : ByteArray) : impl_fieldOf.f form n = some (fidx form n) := rfl
/-- A list's choices: names, and none twice. -/
def choiceAt (l : List ByteArray) (i : Nat) : Bool := nameB (l.getD i ByteArray.empty) && (List.range i).all (fun k => !((l.getD k ByteArray.empty).toList == (l.getD i ByteArray.empty).toList))
def choices (l : List ByteArray) : Bool := (List.range l.length).all (choiceAt l)
theorem l23Names_ev (l : List ByteArray) (hl : l.length ≤ 9223372036854775807) (hs : ∀ s ∈ l, s.size ≤ 9223372036854775807) : Ev (fun k => spec_l23Names.f k l) (choices l) := by
  have inner : ∀ i, i < l.length → ∀ y, ((List.range i).all (fun k => !((l.getD k ByteArray.empty).toList == (l.getD i ByteArray.empty).toList)) = true → Ev (fun k => spec_l23Names.l0 k l ((i + 1 : Nat) : Int)) y) →
      Ev (fun k => spec_l23Names.l1 k l i 0) (if (List.range i).all (fun k => !((l.getD k ByteArray.empty).toList == (l.getD i ByteArray.empty).toList)) = true then y else false) := by
    intro i hi y hy
    refine ev_all0 (L := fun k j => spec_l23Names.l1 k l i j) i _ false y ?_ ?_ ?_
    · intro hC
      refine Ev.step (fun k => rfl) (ev_neg (by omega) ?_)
      rw [wrap_succ hi hl]
      exact hy (all_range.2 hC)
    · intro m hm _ hc z hz
      refine Ev.step (fun k => rfl) (ev_pos (by omega) (ev_pos (by omega) (ev_pos (by omega) (ev_pos (by omega) (ev_pos (by omega) (ev_neg ?_ ?_))))))
      · simp only [rdOf, Int.toNat_natCast]
        simpa using hc
      · rw [wrap_succ hm (by omega)]; exact hz
    · intro m hm _ hc
      refine Ev.step (fun k => rfl) (ev_pos (by omega) (ev_pos (by omega) (ev_pos (by omega) (ev_pos (by omega) (ev_pos (by omega) (ev_pos ?_ (ev_now rfl)))))))
      simp only [rdOf, Int.toNat_natCast]
      simpa using hc
  have h := ev_all0 (L := fun k i => spec_l23Names.l0 k l i) l.length (choiceAt l) false true (fun _ => Ev.step (fun k => rfl) (ev_neg (by omega) (ev_now rfl))) ?h1 ?h2
  case h1 =>
    intro i hi _ hc y hy
    simp only [choiceAt, Bool.and_eq_true] at hc
    refine Ev.step (fun k => rfl) (ev_pos (by omega) (ev_pos (by omega) ?_))
    simp only [rdOf, Int.toNat_natCast]
    refine Ev.bind (l7Name_ev _ (by rw [getD_in hi]; exact hs _ (List.getElem_mem hi))) (ev_pos hc.1 ?_)
    have := inner i hi y (fun _ => hy)
    rw [if_pos hc.2] at this
    exact this
  case h2 =>
    intro i hi _ hc
    refine Ev.step (fun k => rfl) (ev_pos (by omega) (ev_pos (by omega) ?_))
    simp only [rdOf, Int.toNat_natCast]
    refine Ev.bind (l7Name_ev _ (by rw [getD_in hi]; exact hs _ (List.getElem_mem hi))) (ev_ite (fun h1 => ?_) (fun _ => ev_now rfl))
    have hn : ¬ (List.range i).all (fun k => !((l.getD k ByteArray.empty).toList == (l.getD i ByteArray.empty).toList)) = true := by
      intro h2
      simp only [choiceAt, h1, h2] at hc
      cases hc
    have := inner i hi false (fun h => absurd h hn)
    rw [if_neg hn] at this
    exact this
  refine ev_cast h ?_
  unfold choices
  cases (List.range l.length).all (choiceAt l) <;> rfl
theorem slicesIndexStr_ev (l : List ByteArray) (n : ByteArray) (hl : l.length ≤ 9223372036854775807) : Ev (fun k => slices_Index_string_string.f k l n) (idxG (fun x : ByteArray => x.toList == n.toList) 0 l) := by
  have h := ev_walk (L := fun k i => slices_Index_string_string.l0 k l n (l.length : Int) i) (G := fun i r => idxG (fun x : ByteArray => x.toList == n.toList) i r) l (Ev.step (fun k => rfl) (ev_neg (by omega) (ev_now rfl))) ?step
  case step =>
    intro i x r hi hd hx hk
    refine Ev.step (fun k => rfl) (ev_pos (by omega) (ev_pos (by omega) (ev_pos (by omega) ?_)))
    simp only [rdOf, Int.toNat_natCast, hx]
    by_cases c : n.toList = x.toList
    · exact ev_pos c (ev_now (by simp [idxG, c]))
    · refine ev_neg c ?_
      rw [wrap_succ hi hl]
      have c' : ¬ x.toList = n.toList := fun h => c h.symm
      exact ev_cast hk (by simp [idxG, c'])
  exact h
theorem slicesContainsStr_ev (l : List ByteArray) (n : ByteArray) (hl : l.length ≤ 9223372036854775807) : Ev (fun k => slices_Contains_string_string.f k l n) (l.any (fun x => x.toList == n.toList)) := by
  unfold slices_Contains_string_string.f
  refine Ev.bind (slicesIndexStr_ev l n hl) (ev_now ?_)
  exact idxG_nonneg (fun x : ByteArray => x.toList == n.toList) l 0
theorem any_take (l : List ByteArray) (i : Nat) (hi : i < l.length) (n : ByteArray) : (l.take i).any (fun x => x.toList == n.toList) = !(List.range i).all (fun k => !((l.getD k ByteArray.empty).toList == n.toList)) := by
  rw [Bool.eq_iff_iff, Bool.not_eq_true', List.any_eq_true, Bool.eq_false_iff, ne_eq, all_range]
  constructor
  · rintro ⟨x, hx, hp⟩ h
    obtain ⟨q, hq, rfl⟩ := List.getElem_of_mem hx
    have hq' : q < i := by simp at hq; omega
    have := h q hq'
    rw [getD_in (by omega)] at this
    rw [List.getElem_take] at hp
    rw [hp] at this; cases this
  · intro h
    refine Classical.byContradiction (fun hc => h (fun k hk => ?_))
    rw [getD_in (by omega)]
    cases hq : (l[k].toList == n.toList) with
    | false => rfl
    | true =>
      refine absurd ⟨l[k], ?_, hq⟩ hc
      rw [List.mem_take_iff_getElem]
      exact ⟨k, by omega, rfl⟩
/-- What is asked of the kind. -/
def kindOk (f : Field) : Bool :=
  if f.f1 = 1 then decide (-999999 ≤ f.f2 ∧ f.f2 ≤ f.f3 ∧ f.f3 ≤ 999999) && (f.f4.length == 0)
  else if f.f1 = 2 then decide (0 ≤ f.f2 ∧ f.f2 ≤ f.f3 ∧ f.f3 ≤ 40) && (f.f4.length == 0)
  else if f.f1 = 3 then decide (f.f2 = 0 ∧ f.f3 = 0) && decide (1 ≤ (f.f4.length : Int) ∧ (f.f4.length : Int) ≤ 6) && choices f.f4
  else if f.f1 = 4 then decide (f.f2 = 0 ∧ f.f3 = 0) && (f.f4.length == 0) else false
/-- What is asked of the condition, the fields ahead being known. -/
def ifOk (form : List Field) (i : Nat) (n : ByteArray) : Bool := (n.toList == []) || (decide (0 ≤ fidx form n ∧ fidx form n < (i : Int)) && ((form.getD (fidx form n).toNat zF).f1 == 4))
def fieldB (form : List Field) (i : Nat) : Bool :=
  nameB (form.getD i zF).f0 && decide (fidx form (form.getD i zF).f0 = (i : Int)) && decide (1 ≤ (form.getD i zF).f1 ∧ (form.getD i zF).f1 ≤ 4) && ifOk form i (form.getD i zF).f6 && kindOk (form.getD i zF)
theorem specField_ev (form : List Field) (i : Nat) (hi : i < form.length) (hl : form.length ≤ 9223372036854775807) (hf : fine (form.getD i zF)) : Ev (fun k => spec_l23Field.f k form i) (fieldB form i) := by
  unfold spec_l23Field.f
  refine ev_pos (by omega) (ev_pos (by omega) ?_)
  simp only [rd_T31, Int.toNat_natCast, l1In_eq]
  generalize hF : form.getD i z31 = F at *
  have hFB : fieldB form i = (nameB F.f0 && decide (fidx form F.f0 = (i : Int)) && decide (1 ≤ F.f1 ∧ F.f1 ≤ 4) && ifOk form i F.f6 && kindOk F) := by unfold fieldB; rw [show form.getD i zF = F from hF]
  rw [hFB]
  obtain ⟨g0, g4, g4s, g6⟩ := id hf
  have stop : ∀ b, b = false → Ev (fun k => spec_l23Field.j0 k form i true F.f0 F.f1 F.f2 F.f3 F.f4 F.f5 F.f6) b := fun b hb => hb ▸ Ev.step (fun k => rfl) (ev_now rfl)
  refine Ev.bind (l7Name_ev F.f0 g0) (ev_ite (fun h1 => ?_) (fun h1 => stop _ (by simp [h1])))
  refine Ev.bind (l23Find_ev form F.f0 hl) (ev_ite (fun h2 => ?_) (fun h2 => stop _ (by simp [h2])))
  by_cases h3 : 1 ≤ F.f1 ∧ F.f1 ≤ 4
  case neg =>
    show Ev (fun k => spec_l23Field.j0 k form i (!decide (1 ≤ F.f1 ∧ F.f1 ≤ 4)) F.f0 F.f1 F.f2 F.f3 F.f4 F.f5 F.f6) _
    rw [decide_eq_false h3]
    exact stop _ (by simp)
  show Ev (fun k => spec_l23Field.j0 k form i (!decide (1 ≤ F.f1 ∧ F.f1 ≤ 4)) F.f0 F.f1 F.f2 F.f3 F.f4 F.f5 F.f6) _
  rw [decide_eq_true h3]
  have tail : Ev (fun k => spec_l23Field.j1 k F.f0 F.f1 F.f2 F.f3 F.f4 F.f5 F.f6) (kindOk F) := by
    refine Ev.step (fun k => rfl) ?_
    unfold kindOk
    simp only [spec_l23Field.j1, l1In_eq]
    have e0 : ((F.f4.length : Int) == 0) = (F.f4.length == 0) := by
      rw [Bool.eq_iff_iff, beq_iff_eq, beq_iff_eq]; omega
    refine ev_ite (fun k1 => ?_) (fun k1 => ev_ite (fun k2 => ?_) (fun k2 => ev_ite (fun k3 => ?_) (fun k3 => ?_)))
    · rw [if_pos k1]
      refine ev_ite (fun h => ev_ite (fun h' => ev_now ?_) (fun h' => ev_now ?_)) (fun h => ev_now ?_)
      · rw [decide_eq_true_eq] at h; rw [decide_eq_true (show -999999 ≤ F.f2 ∧ F.f2 ≤ F.f3 ∧ F.f3 ≤ 999999 by omega), Bool.true_and, e0]
      · rw [decide_eq_false (show ¬ (-999999 ≤ F.f2 ∧ F.f2 ≤ F.f3 ∧ F.f3 ≤ 999999) by omega), Bool.false_and]
      · rw [decide_eq_true_eq] at h; rw [decide_eq_false (show ¬ (-999999 ≤ F.f2 ∧ F.f2 ≤ F.f3 ∧ F.f3 ≤ 999999) by omega), Bool.false_and]
    · rw [if_neg k1, if_pos k2]
      refine ev_ite (fun h => ev_ite (fun h' => ev_now ?_) (fun h' => ev_now ?_)) (fun h => ev_now ?_)
      · rw [decide_eq_true_eq] at h; rw [decide_eq_true (show 0 ≤ F.f2 ∧ F.f2 ≤ F.f3 ∧ F.f3 ≤ 40 by omega), Bool.true_and, e0]
      · rw [decide_eq_false (show ¬ (0 ≤ F.f2 ∧ F.f2 ≤ F.f3 ∧ F.f3 ≤ 40) by omega), Bool.false_and]
      · rw [decide_eq_true_eq] at h; rw [decide_eq_false (show ¬ (0 ≤ F.f2 ∧ F.f2 ≤ F.f3 ∧ F.f3 ≤ 40) by omega), Bool.false_and]
    · rw [if_neg k1, if_neg k2, if_pos k3]
      refine ev_ite (fun h => ev_ite (fun h' => ev_ite (fun h'' => ?_) (fun h'' => ev_now ?_)) (fun h' => ev_now ?_)) (fun h => ev_now ?_)
      · rw [decide_eq_true (show F.f2 = 0 ∧ F.f3 = 0 from ⟨h, h'⟩), h'', Bool.true_and, Bool.true_and]
        exact Ev.bind (l23Names_ev F.f4 g4 g4s) (ev_now rfl)
      · rw [decide_eq_true (show F.f2 = 0 ∧ F.f3 = 0 from ⟨h, h'⟩), Bool.eq_false_iff.2 h'']; rfl
      · rw [decide_eq_false (show ¬ (F.f2 = 0 ∧ F.f3 = 0) by omega)]; rfl
      · rw [decide_eq_false (show ¬ (F.f2 = 0 ∧ F.f3 = 0) by omega)]; rfl
    · rw [if_neg k1, if_neg k2, if_neg k3, if_pos (show F.f1 = 4 by omega)]
      refine ev_ite (fun h => ev_ite (fun h' => ev_now ?_) (fun h' => ev_now ?_)) (fun h => ev_now ?_)
      · rw [decide_eq_true (show F.f2 = 0 ∧ F.f3 = 0 from ⟨h, h'⟩), Bool.true_and, e0]
      · rw [decide_eq_false (show ¬ (F.f2 = 0 ∧ F.f3 = 0) by omega)]; rfl
      · rw [decide_eq_false (show ¬ (F.f2 = 0 ∧ F.f3 = 0) by omega)]; rfl
  rw [h1, decide_eq_true h2, Bool.true_and, Bool.true_and, Bool.true_and]
  refine Ev.step (fun k => rfl) ?_
  show Ev (fun k => if F.f6.toList = ([] : List UInt8) then _ else _) _
  unfold ifOk
  refine ev_ite (fun h4 => ev_cast tail (by simp [h4])) (fun h4 => ?_)
  have h4' : (F.f6.toList == []) = false := by simpa using h4
  rw [h4', Bool.false_or]
  refine Ev.bind (l23Find_ev form F.f6 hl) (ev_ite (fun h5 => ev_now ?_) (fun h5 => ev_ite (fun h6 => ev_now ?_) (fun h6 => ?_)))
  · rw [decide_eq_false (by omega), Bool.false_and, Bool.false_and]
  · rw [decide_eq_false (by omega), Bool.false_and, Bool.false_and]
  · refine ev_pos (by omega) (ev_pos (by omega) ?_)
    simp only [rd_T31]
    rw [decide_eq_true (show 0 ≤ fidx form F.f6 ∧ fidx form F.f6 < (i : Int) by omega), Bool.true_and]
    refine ev_ite (fun h7 => ev_cast tail ?_) (fun h7 => ev_now ?_)
    · show kindOk F = (((form.getD (fidx form F.f6).toNat z31).f1 == 4) && kindOk F)
      rw [h7]; rfl
    · show false = (((form.getD (fidx form F.f6).toNat z31).f1 == 4) && kindOk F)
      rw [show ((form.getD (fidx form F.f6).toNat z31).f1 == 4) = false from by simpa using h7]; rfl
def formB (form : List Field) : Bool := decide ((form.length : Int) ≤ 10) && (List.range form.length).all (fieldB form)
theorem specForm_ev (form : List Field) (hl : form.length ≤ 9223372036854775807) (hf : ∀ f ∈ form, fine f) : Ev (fun k => spec_l23Good.f k form) (formB form) := by
  unfold spec_l23Good.f
  refine ev_ite (fun h => ev_now ?_) (fun h => ?_)
  · unfold formB; rw [decide_eq_false (by omega), Bool.false_and]
  unfold formB
  rw [decide_eq_true (by omega), Bool.true_and]
  have h := ev_all0 (L := fun k i => spec_l23Good.l0 k form i) form.length (fieldB form) false true (fun _ => Ev.step (fun k => rfl) (ev_neg (by omega) (ev_now rfl))) ?h1 ?h2
  case h1 =>
    intro i hi _ hc y hy
    refine Ev.step (fun k => rfl) (ev_pos (by omega) (Ev.bind (specField_ev form i hi hl (hf _ (by rw [getD_in hi]; exact List.getElem_mem hi))) (ev_pos hc ?_)))
    rw [wrap_succ hi hl]; exact hy
  case h2 =>
    intro i hi _ hc
    exact Ev.step (fun k => rfl) (ev_pos (by omega) (Ev.bind (specField_ev form i hi hl (hf _ (by rw [getD_in hi]; exact List.getElem_mem hi))) (ev_neg (by rw [hc]; simp) (ev_now rfl))))
  refine ev_cast h ?_
  cases (List.range form.length).all (fieldB form) <;> rfl
end Go.Proofs.YtcjloeeomhiblaaDoor.X
set_option linter.unusedVariables false
set_option linter.unusedSimpArgs false
namespace Go.Proofs.YtcjloeeomhiblaaDoor.X
open Go.RowKit Go.Proofs.YtcjloeeomhiblaaDoorW.PrintWords Go.Proofs.YtcjloeeomhiblaaDoor.E
theorem choiceLoop_ev (F : Field) (hF : fine F) :
    Ev (fun k => impl_isField.l0 k F.f4 (F.f4.length : Int) 0 F.f0 F.f1 F.f2 F.f3 F.f4 F.f5 F.f6) (decide (F.f2 = 0 ∧ F.f3 = 0) && decide (1 ≤ (F.f4.length : Int) ∧ (F.f4.length : Int) ≤ 6) && choices F.f4) := by
  obtain ⟨g0, g4, g4s, g6⟩ := hF
  have h := ev_all0 (L := fun k i => impl_isField.l0 k F.f4 (F.f4.length : Int) i F.f0 F.f1 F.f2 F.f3 F.f4 F.f5 F.f6) F.f4.length (choiceAt F.f4) false
    (decide (F.f2 = 0 ∧ F.f3 = 0) && decide (1 ≤ (F.f4.length : Int) ∧ (F.f4.length : Int) ≤ 6)) (fun _ => Ev.step (fun k => rfl) (ev_neg (by omega) ?h0)) ?h1 ?h2
  case h0 =>
    simp only [within_eq]
    refine ev_ite (fun h => ev_ite (fun h' => ev_now ?_) (fun h' => ev_now ?_)) (fun h => ev_now ?_)
    · rw [h, Bool.and_true]
      rw [Bool.eq_iff_iff, beq_iff_eq, decide_eq_true_eq]
      exact ⟨fun e => ⟨h', e⟩, fun e => e.2⟩
    · rw [decide_eq_false (show ¬ (F.f2 = 0 ∧ F.f3 = 0) by omega), Bool.false_and]
    · rw [Bool.eq_false_iff.2 h, Bool.and_false]
  case h1 =>
    intro i hi _ hc y hy
    simp only [choiceAt, Bool.and_eq_true] at hc
    refine Ev.step (fun k => rfl) (ev_pos (by omega) (ev_pos (by omega) (ev_pos (by omega) ?_)))
    simp only [rdOf, Int.toNat_natCast]
    refine Ev.bind (isName_ev _ (by rw [getD_in hi]; exact g4s _ (List.getElem_mem hi))) (ev_pos hc.1 (ev_pos (by omega) ?_))
    refine Ev.bind (slicesContainsStr_ev _ _ (by simp; omega)) (ev_neg ?_ ?_)
    · rw [any_take _ _ hi, hc.2]; simp
    · rw [wrap_succ hi g4]; exact hy
  case h2 =>
    intro i hi _ hc
    refine Ev.step (fun k => rfl) (ev_pos (by omega) (ev_pos (by omega) (ev_pos (by omega) ?_)))
    simp only [rdOf, Int.toNat_natCast]
    refine Ev.bind (isName_ev _ (by rw [getD_in hi]; exact g4s _ (List.getElem_mem hi))) (ev_ite (fun h1 => ev_pos (by omega) ?_) (fun _ => ev_now rfl))
    refine Ev.bind (slicesContainsStr_ev _ _ (by simp; omega)) (ev_pos ?_ (ev_now rfl))
    rw [any_take _ _ hi]
    unfold choiceAt at hc
    rw [h1, Bool.true_and] at hc
    rw [hc]; rfl
  refine ev_cast h ?_
  unfold choices
  cases (List.range F.f4.length).all (choiceAt F.f4) <;> simp
theorem kindSwitch_ev (F : Field) (hF : fine F) : Ev (fun k => impl_isField.j1 k false F.f0 F.f1 F.f2 F.f3 F.f4 F.f5 F.f6) (decide (1 ≤ F.f1 ∧ F.f1 ≤ 4) && kindOk F) := by
  have e0 : decide ((F.f4.length : Int) > 0) = !(F.f4.length == 0) := by
    cases h : (F.f4.length == 0)
    · have : ¬ F.f4.length = 0 := by simpa using h
      rw [decide_eq_true (by omega)]; rfl
    · have : F.f4.length = 0 := by simpa using h
      rw [decide_eq_false (by omega)]; rfl
  have bad : Ev (fun k => impl_isField.j2 k true F.f0 F.f1 F.f2 F.f3 F.f4 F.f5 F.f6) false := Ev.step (fun k => rfl) (ev_now rfl)
  refine Ev.step (fun k => rfl) ?_
  show Ev (fun k => if F.f1 = 3 then impl_isField.j2 k false F.f0 F.f1 F.f2 F.f3 F.f4 F.f5 F.f6 else impl_isField.j2 k (decide ((F.f4.length : Int) > 0)) F.f0 F.f1 F.f2 F.f3 F.f4 F.f5 F.f6) _
  have sw : F.f1 = 3 ∨ (F.f4.length == 0) = true → Ev (fun k => impl_isField.j2 k false F.f0 F.f1 F.f2 F.f3 F.f4 F.f5 F.f6) (decide (1 ≤ F.f1 ∧ F.f1 ≤ 4) && kindOk F) := by
    intro hz
    refine Ev.step (fun k => rfl) ?_
    show Ev (fun k => if F.f1 = 1 then _ else _) _
    unfold kindOk
    refine ev_ite (fun k1 => ?_) (fun k1 => ev_ite (fun k2 => ?_) (fun k2 => ev_ite (fun k3 => ?_) (fun k3 => ev_ite (fun k4 => ?_) (fun k4 => ev_now ?_))))
    · rw [if_pos k1, decide_eq_true (show 1 ≤ F.f1 ∧ F.f1 ≤ 4 by omega), Bool.true_and, show (F.f4.length == 0) = true from hz.resolve_left (by omega), Bool.and_true]
      refine ev_ite (fun h => ev_ite (fun h' => ev_now ?_) (fun h' => ev_now ?_)) (fun h => ev_now ?_)
      · rw [Bool.eq_iff_iff, decide_eq_true_eq, decide_eq_true_eq]; omega
      · rw [decide_eq_false (by omega)]
      · rw [decide_eq_false (by omega)]
    · rw [if_neg k1, if_pos k2, decide_eq_true (show 1 ≤ F.f1 ∧ F.f1 ≤ 4 by omega), Bool.true_and, show (F.f4.length == 0) = true from hz.resolve_left (by omega), Bool.and_true]
      refine ev_ite (fun h => ev_ite (fun h' => ev_now ?_) (fun h' => ev_now ?_)) (fun h => ev_now ?_)
      · rw [Bool.eq_iff_iff, decide_eq_true_eq, decide_eq_true_eq]; omega
      · rw [decide_eq_false (by omega)]
      · rw [decide_eq_false (by omega)]
    · rw [if_neg k1, if_neg k2, if_pos k3, decide_eq_true (show 1 ≤ F.f1 ∧ F.f1 ≤ 4 by omega), Bool.true_and]
      exact choiceLoop_ev F hF
    · rw [if_neg k1, if_neg k2, if_neg k3, if_pos k4, decide_eq_true (show 1 ≤ F.f1 ∧ F.f1 ≤ 4 by omega), Bool.true_and, show (F.f4.length == 0) = true from hz.resolve_left (by omega), Bool.and_true]
      refine ev_ite (fun h => ev_now ?_) (fun h => ev_now ?_)
      · rw [Bool.eq_iff_iff, beq_iff_eq, decide_eq_true_eq]; exact ⟨fun e => ⟨h, e⟩, fun e => e.2⟩
      · rw [decide_eq_false (by omega)]
    · rw [decide_eq_false (show ¬ (1 ≤ F.f1 ∧ F.f1 ≤ 4) by omega), Bool.false_and]
  refine ev_ite (fun h3 => sw (.inl h3)) (fun h3 => ?_)
  rw [e0]
  cases hz : (F.f4.length == 0) with
  | true => exact sw (.inr hz)
  | false =>
    refine ev_cast bad ?_
    unfold kindOk
    rw [hz, if_neg h3]
    simp
theorem implField_ev (form : List Field) (i : Nat) (hi : i < form.length) (hl : form.length ≤ 9223372036854775807) (hf : fine (form.getD i zF)) :
    Ev (fun k => impl_isField.f k (form.take i) (form.getD i zF).f0 (form.getD i zF).f1 (form.getD i zF).f2 (form.getD i zF).f3 (form.getD i zF).f4 (form.getD i zF).f5 (form.getD i zF).f6) (fieldB form i) := by
  have hself : form[i]? = some (form.getD i zF) := by rw [getD_in hi, List.getElem?_eq_getElem hi]
  have hfirst := idxG_first (p := fun x : Field => x.f0.toList == (form.getD i zF).f0.toList) hself (by simp)
  have hFB : fieldB form i = (nameB (form.getD i zF).f0 && decide (fidx form (form.getD i zF).f0 = (i : Int)) && decide (1 ≤ (form.getD i zF).f1 ∧ (form.getD i zF).f1 ≤ 4) && ifOk form i (form.getD i zF).f6 && kindOk (form.getD i zF)) := rfl
  rw [hFB]
  clear hFB hself
  generalize form.getD i zF = F at *
  obtain ⟨g0, g4, g4s, g6⟩ := id hf
  have stop : ∀ b, b = false → Ev (fun k => impl_isField.j0 k (form.take i) true F.f0 F.f1 F.f2 F.f3 F.f4 F.f5 F.f6) b := fun b hb => hb ▸ Ev.step (fun k => rfl) (ev_now rfl)
  unfold impl_isField.f
  simp only [fieldOf_eq]
  refine Ev.bind (isName_ev F.f0 g0) (ev_ite (fun h1 => ?_) (fun h1 => stop _ (by simp [h1])))
  show Ev (fun k => impl_isField.j0 k (form.take i) (decide (fidx (form.take i) F.f0 ≥ 0)) F.f0 F.f1 F.f2 F.f3 F.f4 F.f5 F.f6) _
  by_cases h2 : fidx form F.f0 = (i : Int)
  case neg =>
    have h2' : ¬ fidx (form.take i) F.f0 < 0 := fun h => h2 (hfirst.2 h)
    rw [decide_eq_true (show fidx (form.take i) F.f0 ≥ 0 by omega)]
    exact stop _ (by simp [h2])
  have h2' := hfirst.1 h2
  rw [decide_eq_false (show ¬ fidx (form.take i) F.f0 ≥ 0 from by have : fidx (form.take i) F.f0 < 0 := h2'; omega)]
  rw [h1, decide_eq_true h2, Bool.true_and, Bool.true_and]
  have bad : ∀ b, b = false → Ev (fun k => impl_isField.j1 k true F.f0 F.f1 F.f2 F.f3 F.f4 F.f5 F.f6) b := fun b hb => hb ▸ Ev.step (fun k => rfl) (ev_now rfl)
  have good := kindSwitch_ev F hf
  refine Ev.step (fun k => rfl) ?_
  simp only [impl_isField.j0]
  refine ev_neg (by simp) (ev_bind0 (fieldOf_eq _ _) ?_)
  unfold ifOk
  refine ev_ite (fun h4 => ev_cast good (by simp [h4])) (fun h4 => ?_)
  have h4' : (F.f6.toList == []) = false := by simpa using h4
  rw [h4', Bool.false_or]
  have hif : fidx (form.take i) F.f6 = if ((0 : Nat) : Int) ≤ fidx form F.f6 ∧ fidx form F.f6 < ((0 + i : Nat) : Int) then fidx form F.f6 else -1 := idxG_take _ form 0 i
  refine ev_ite (fun h5 => bad _ ?_) (fun h5 => ?_)
  · have : ¬ (0 ≤ fidx form F.f6 ∧ fidx form F.f6 < (i : Int)) := by
      intro h
      rw [hif, if_pos (by omega)] at h5
      omega
    rw [decide_eq_false this]; simp
  · have hr : 0 ≤ fidx form F.f6 ∧ fidx form F.f6 < (i : Int) := by
      refine Classical.byContradiction (fun h => ?_)
      rw [hif, if_neg (by omega)] at h5
      omega
    have he : fidx (form.take i) F.f6 = fidx form F.f6 := by rw [hif, if_pos (by omega)]
    rw [decide_eq_true hr, Bool.true_and]
    have hlen : (form.take i).length = i := by simp; omega
    refine ev_pos (by omega) (ev_pos (by rw [he, hlen]; omega) ?_)
    have hrd : rd_T31 (form.take i) (fidx (form.take i) F.f6) = form.getD (fidx form F.f6).toNat zF := by
      unfold rd_T31
      rw [he, getD_in (by rw [hlen]; omega), List.getElem_take, getD_in (by omega)]
    simp only [hrd]
    by_cases h7 : (form.getD (fidx form F.f6).toNat zF).f1 = 4
    · have e : ((form.getD (fidx form F.f6).toNat zF).f1 != 4) = false := bne_eq_false_iff_eq.mpr h7
      rw [e, h7]
      exact ev_cast good (by simp)
    · have e : ((form.getD (fidx form F.f6).toNat zF).f1 != 4) = true := bne_iff_ne.mpr h7
      rw [e]
      rw [show ((form.getD (fidx form F.f6).toNat zF).f1 == 4) = false from beq_eq_false_iff_ne.mpr h7]
      exact bad _ (by simp)
theorem implForm_ev (form : List Field) (hl : form.length ≤ 9223372036854775807) (hf : ∀ f ∈ form, fine f) : Ev (fun k => impl_IsValidForm.f k form) (formB form) := by
  have h := ev_all0 (L := fun k i => impl_IsValidForm.l0 k form form (form.length : Int) i) form.length (fieldB form) false (decide ((form.length : Int) ≤ 10)) (fun _ => Ev.step (fun k => rfl) (ev_neg (by omega) (ev_now rfl))) ?h1 ?h2
  case h1 =>
    intro i hi _ hc y hy
    refine Ev.step (fun k => rfl) (ev_pos (by omega) (ev_pos (by omega) (ev_pos (by omega) (ev_pos (by omega) ?_))))
    simp only [rd_T31, Int.toNat_natCast]
    refine Ev.bind (implField_ev form i hi hl (hf _ (by rw [getD_in hi]; exact List.getElem_mem hi))) (ev_pos hc ?_)
    rw [wrap_succ hi hl]; exact hy
  case h2 =>
    intro i hi _ hc
    refine Ev.step (fun k => rfl) (ev_pos (by omega) (ev_pos (by omega) (ev_pos (by omega) (ev_pos (by omega) ?_))))
    simp only [rd_T31, Int.toNat_natCast]
    exact Ev.bind (implField_ev form i hi hl (hf _ (by rw [getD_in hi]; exact List.getElem_mem hi))) (ev_neg (by rw [hc]; simp) (ev_now rfl))
  refine ev_cast h ?_
  unfold formB
  cases (List.range form.length).all (fieldB form) <;> simp
end Go.Proofs.YtcjloeeomhiblaaDoor.X
set_option linter.unusedVariables false
set_option linter.unusedSimpArgs false
namespace Go.Proofs.YtcjloeeomhiblaaDoor.X
open Go.RowKit Go.Proofs.YtcjloeeomhiblaaDoorW.PrintWords Go.Proofs.YtcjloeeomhiblaaDoor.E
def numB (n : Int) : ByteArray := ⟨(Lib.itoa n).toArray⟩
def decB (u : Nat) : ByteArray := ⟨(Lib.decDigits u).toArray⟩
theorem digit_fin : ∀ i : Fin 10, (⟨#[48, 49, 50, 51, 52, 53, 54, 55, 56, 57]⟩ : ByteArray).extract i.val (i.val + 1) = ⟨#[UInt8.ofNat (48 + i.val)]⟩ := by decide +kernel
theorem digit_at (i : Int) (j : Int) (h0 : 0 ≤ i) (h1 : i < 10) (hj : j = i + 1) : (⟨#[48, 49, 50, 51, 52, 53, 54, 55, 56, 57]⟩ : ByteArray).extract i.toNat j.toNat = ⟨#[UInt8.ofNat (48 + i.toNat)]⟩ := by
  rw [show j.toNat = i.toNat + 1 by omega]
  exact digit_fin ⟨i.toNat, by omega⟩
theorem ba_append (l m : List UInt8) : (⟨l.toArray⟩ : ByteArray) ++ (⟨m.toArray⟩ : ByteArray) = ⟨(l ++ m).toArray⟩ := by
  apply ByteArray.ext
  rw [ByteArray.data_append]
  simp
theorem ba_size (l : List UInt8) : (⟨l.toArray⟩ : ByteArray).size = l.length := rfl
theorem decB_size (u : Nat) (h : u < 18446744073709551616) : (decB u).size ≤ 20 := by
  unfold decB
  rw [ba_size, Lib.decDigits_length]
  exact Lib.nDigits_le20 u h
theorem numB_size (n : Int) (h0 : -9223372036854775808 ≤ n) (h1 : n ≤ 9223372036854775807) : (numB n).size ≤ 21 := by
  unfold numB
  rw [ba_size]
  exact Lib.itoa_length_le n h0 h1
theorem l1Num_nat : ∀ (u : Nat), u ≤ 9223372036854775807 → Ev (fun k => spec_l1Num.f k (u : Int)) (decB u) := by
  intro u
  induction u using Nat.strongRecOn with
  | _ u ih =>
    intro hu
    refine Ev.step (fun k => rfl) (ev_neg (by omega) ?_)
    by_cases h : u < 10
    · have hw : wrap64 ((u : Int) + 1) = (u : Int) + 1 := wrap_id (by omega) (by omega)
      rw [hw]
      refine ev_pos (by omega) (ev_pos (by omega) (ev_pos (by omega) (ev_pos (by omega) (ev_now ?_))))
      rw [digit_at (u : Int) _ (by omega) (by omega) rfl]
      unfold decB
      rw [Lib.decDigits, dif_pos h, Int.toNat_natCast]
    · refine ev_neg (by omega) ?_
      have hd : Int.tdiv (u : Int) 10 = ((u / 10 : Nat) : Int) := by rw [Int.tdiv_eq_ediv_of_nonneg (by omega)]; omega
      have hm : Int.tmod (u : Int) 10 = ((u % 10 : Nat) : Int) := by rw [Int.tmod_eq_emod_of_nonneg (by omega)]; omega
      have hw : wrap64 ((u / 10 : Nat) : Int) = ((u / 10 : Nat) : Int) := wrap_id (by omega) (by omega)
      have hw2 : wrap64 (((u % 10 : Nat) : Int) + 1) = ((u % 10 : Nat) : Int) + 1 := wrap_id (by omega) (by omega)
      rw [hd, hw, hm, hw2]
      refine Ev.bind (ih (u / 10) (by omega) (by omega)) ?_
      rw [digit_at ((u % 10 : Nat) : Int) _ (by omega) (by omega) rfl]
      have hs := decB_size (u / 10) (by omega)
      have h1 : (⟨#[UInt8.ofNat (48 + ((u % 10 : Nat) : Int).toNat)]⟩ : ByteArray).size = 1 := rfl
      refine ev_pos (by omega) (ev_pos (by omega) (ev_pos (by omega) (ev_pos (by omega) (ev_now ?_))))
      unfold decB
      rw [show (⟨#[UInt8.ofNat (48 + ((u % 10 : Nat) : Int).toNat)]⟩ : ByteArray) = ⟨[UInt8.ofNat (48 + u % 10)].toArray⟩ by rw [Int.toNat_natCast], ba_append]
      conv => rhs; rw [Lib.decDigits, dif_neg h]
theorem l1Num_ev (n : Int) (h0 : -9223372036854775807 ≤ n) (h1 : n ≤ 9223372036854775807) : Ev (fun k => spec_l1Num.f k n) (numB n) := by
  by_cases hn : n < 0
  · have hw : wrap64 (-n) = ((n.natAbs : Nat) : Int) := by rw [wrap_id (by omega) (by omega)]; omega
    refine Ev.step (fun k => rfl) (ev_pos hn ?_)
    rw [hw]
    have hs := decB_size n.natAbs (by omega)
    refine Ev.bind (l1Num_nat _ (by omega)) (ev_pos (by omega) (ev_now ?_))
    unfold numB decB
    rw [show (⟨#[45]⟩ : ByteArray) = ⟨[45].toArray⟩ from rfl, ba_append, Lib.itoa, if_pos hn]
    rfl
  · obtain ⟨u, rfl⟩ : ∃ u : Nat, n = u := ⟨n.toNat, by omega⟩
    refine ev_cast (l1Num_nat u (by omega)) ?_
    unfold numB decB
    rw [Lib.itoa, if_neg hn, Int.toNat_natCast]
end Go.Proofs.YtcjloeeomhiblaaDoor.X
set_option linter.unusedVariables false
set_option linter.unusedSimpArgs false
namespace Go.Proofs.YtcjloeeomhiblaaDoor.X
open Go.RowKit Go.Proofs.YtcjloeeomhiblaaDoorW.PrintWords Go.Proofs.YtcjloeeomhiblaaDoor.E
/-- Words behind a text, a space ahead of each. -/
def jn (s : ByteArray) (ws : List ByteArray) : ByteArray := ws.foldl (fun s w => (s ++ (⟨#[32]⟩ : ByteArray)) ++ w) s
theorem jn_list : ∀ (ws : List ByteArray) (s : ByteArray), (jn s ws).data.toList = s.data.toList ++ Lib.joinTail [32] (ws.map (·.data.toList))
  | [], s => by simp [jn, Lib.joinTail]
  | w :: ws, s => by
    have h := jn_list ws ((s ++ (⟨#[32]⟩ : ByteArray)) ++ w)
    show (jn ((s ++ (⟨#[32]⟩ : ByteArray)) ++ w) ws).data.toList = _
    rw [h]
    simp [Lib.joinTail, ByteArray.data_append]
theorem jn_app (s : ByteArray) (a b : List ByteArray) : jn (jn s a) b = jn s (a ++ b) := by unfold jn; rw [List.foldl_append]
def wsum (ws : List ByteArray) : Nat := (ws.map (fun w => w.size + 1)).sum
theorem jn_size : ∀ (ws : List ByteArray) (s : ByteArray), (jn s ws).size = s.size + wsum ws
  | [], s => by simp [jn, wsum]
  | w :: ws, s => by
    have h := jn_size ws ((s ++ (⟨#[32]⟩ : ByteArray)) ++ w)
    show (jn ((s ++ (⟨#[32]⟩ : ByteArray)) ++ w) ws).size = _
    have h1 : (⟨#[32]⟩ : ByteArray).size = 1 := rfl
    rw [h, ByteArray.size_append, ByteArray.size_append]
    unfold wsum
    rw [List.map_cons, List.sum_cons]
    omega
theorem join_jn (x : ByteArray) (ws : List ByteArray) : (⟨(Lib.join ((x :: ws).map (·.data.toList)) [32]).toArray⟩ : ByteArray) = jn x ws := by
  apply ByteArray.ext
  apply Array.toList_inj.1
  rw [jn_list, List.map_cons, Lib.join_cons]
theorem join_len (x : ByteArray) (ws : List ByteArray) : (Lib.join ((x :: ws).map (·.data.toList)) [32]).length = x.size + wsum ws := by
  rw [← jn_size, ← join_jn]
  rfl
def kindW (F : Field) : List ByteArray :=
  if F.f1 = 1 then [⟨#[110, 117, 109, 98, 101, 114]⟩, numB F.f2, numB F.f3]
  else if F.f1 = 2 then [⟨#[116, 101, 120, 116]⟩, numB F.f2, numB F.f3]
  else if F.f1 = 3 then ⟨#[99, 104, 111, 105, 99, 101]⟩ :: F.f4 else [⟨#[102, 108, 97, 103]⟩]
def needW (b : Bool) : List ByteArray := if b = true then [⟨#[110, 101, 101, 100, 101, 100]⟩] else []
def ifW (s : ByteArray) : List ByteArray := if s.toList = ([] : List UInt8) then [] else [⟨#[105, 102]⟩, s]
def lineB (F : Field) : ByteArray := jn F.f0 (kindW F ++ (needW F.f5 ++ ifW F.f6))
/-- Sizes that a valid form in the law's bounds has. -/
def Small (F : Field) : Prop := F.f0.size ≤ 1048576 ∧ F.f4.length ≤ 6 ∧ (∀ s ∈ F.f4, s.size ≤ 1048576) ∧ F.f6.size ≤ 1048576
theorem wsum_le {ws : List ByteArray} (h : ∀ s ∈ ws, s.size ≤ 1048576) : wsum ws ≤ 1048577 * ws.length := by
  induction ws with
  | nil => simp [wsum]
  | cons w ws ih =>
    have h1 := h w (List.mem_cons_self ..)
    have h2 := ih (fun s hs => h s (List.mem_cons_of_mem _ hs))
    unfold wsum at *
    rw [List.map_cons, List.sum_cons, List.length_cons]
    omega
theorem need_eq (s : ByteArray) : jn s (needW true) = s ++ (⟨#[32, 110, 101, 101, 100, 101, 100]⟩ : ByteArray) := by
  show (s ++ (⟨#[32]⟩ : ByteArray)) ++ (⟨#[110, 101, 101, 100, 101, 100]⟩ : ByteArray) = _
  rw [ByteArray.append_assoc]; rfl
theorem if_eq (s x : ByteArray) (h : ¬ x.toList = ([] : List UInt8)) : jn s (ifW x) = (s ++ (⟨#[32, 105, 102, 32]⟩ : ByteArray)) ++ x := by
  unfold ifW
  rw [if_neg h]
  show (((s ++ (⟨#[32]⟩ : ByteArray)) ++ (⟨#[105, 102]⟩ : ByteArray)) ++ (⟨#[32]⟩ : ByteArray)) ++ x = _
  rw [show (⟨#[32, 105, 102, 32]⟩ : ByteArray) = ((⟨#[32]⟩ : ByteArray) ++ (⟨#[105, 102]⟩ : ByteArray)) ++ (⟨#[32]⟩ : ByteArray) from rfl]
  simp only [ByteArray.append_assoc]
theorem tail_eq (s : ByteArray) (b : Bool) (x : ByteArray) (hs : s.size ≤ 100000000) (hx : x.size ≤ 1048576) :
    (if b = true then (if s.size + 7 ≤ 9223372036854775807 then (if x.toList = ([] : List UInt8) then (some (s ++ (⟨#[32, 110, 101, 101, 100, 101, 100]⟩ : ByteArray))) else (if (s ++ (⟨#[32, 110, 101, 101, 100, 101, 100]⟩ : ByteArray)).size + 4 ≤ 9223372036854775807 then (if ((s ++ (⟨#[32, 110, 101, 101, 100, 101, 100]⟩ : ByteArray)) ++ (⟨#[32, 105, 102, 32]⟩ : ByteArray)).size + x.size ≤ 9223372036854775807 then (some (((s ++ (⟨#[32, 110, 101, 101, 100, 101, 100]⟩ : ByteArray)) ++ (⟨#[32, 105, 102, 32]⟩ : ByteArray)) ++ x)) else (none)) else (none))) else (none)) else (if x.toList = ([] : List UInt8) then (some s) else (if s.size + 4 ≤ 9223372036854775807 then (if (s ++ (⟨#[32, 105, 102, 32]⟩ : ByteArray)).size + x.size ≤ 9223372036854775807 then (some ((s ++ (⟨#[32, 105, 102, 32]⟩ : ByteArray)) ++ x)) else (none)) else (none)))) = some (jn s (needW b ++ ifW x)) := by
  have h7 : (s ++ (⟨#[32, 110, 101, 101, 100, 101, 100]⟩ : ByteArray)).size = s.size + 7 := by rw [ByteArray.size_append]; rfl
  have h4 : ∀ t : ByteArray, (t ++ (⟨#[32, 105, 102, 32]⟩ : ByteArray)).size = t.size + 4 := fun t => by rw [ByteArray.size_append]; rfl
  rw [← jn_app]
  cases b
  · rw [if_neg (by simp), show jn s (needW false) = s from rfl]
    by_cases c : x.toList = ([] : List UInt8)
    · rw [if_pos c]; unfold ifW; rw [if_pos c]; rfl
    · rw [if_neg c, if_pos (by omega), if_pos (by rw [h4]; omega), if_eq _ _ c]
  · rw [if_pos rfl, if_pos (by omega), need_eq]
    by_cases c : x.toList = ([] : List UInt8)
    · rw [if_pos c]; unfold ifW; rw [if_pos c]; rfl
    · rw [if_neg c, if_pos (by omega), if_pos (by rw [h4]; omega), if_eq _ _ c]
theorem numB_small (n : Int) (h0 : -999999 ≤ n) (h1 : n ≤ 999999) : (numB n).size ≤ 21 := numB_size n (by omega) (by omega)
theorem two_words (s : ByteArray) (w : ByteArray) (l : ByteArray) (hw : (⟨#[32]⟩ : ByteArray) ++ (w ++ (⟨#[32]⟩ : ByteArray)) = l) (t u : ByteArray) : (((s ++ l) ++ t) ++ (⟨#[32]⟩ : ByteArray)) ++ u = jn s [w, t, u] := by
  subst hw
  show _ = (((((s ++ (⟨#[32]⟩ : ByteArray)) ++ w) ++ (⟨#[32]⟩ : ByteArray)) ++ t) ++ (⟨#[32]⟩ : ByteArray)) ++ u
  simp only [ByteArray.append_assoc]
theorem specLine_ev (F : Field) (hk : kindOk F = true) (hs : Small F) : Ev (fun k => spec_l23Line.f k F.f0 F.f1 F.f2 F.f3 F.f4 F.f5 F.f6) (lineB F) := by
  obtain ⟨s0, s4, s5, s6⟩ := hs
  have z1 : ∀ t : ByteArray, (t ++ (⟨#[32]⟩ : ByteArray)).size = t.size + 1 := fun t => by rw [ByteArray.size_append]; rfl
  unfold spec_l23Line.f lineB kindW
  unfold kindOk at hk
  by_cases c1 : F.f1 = 1
  · rw [if_pos c1] at hk ⊢
    simp only [Bool.and_eq_true, decide_eq_true_eq] at hk
    have n2 := numB_small F.f2 (by omega) (by omega)
    have n3 := numB_small F.f3 (by omega) (by omega)
    have z8 : (F.f0 ++ (⟨#[32, 110, 117, 109, 98, 101, 114, 32]⟩ : ByteArray)).size = F.f0.size + 8 := by rw [ByteArray.size_append]; rfl
    have e := two_words F.f0 (⟨#[110, 117, 109, 98, 101, 114]⟩ : ByteArray) (⟨#[32, 110, 117, 109, 98, 101, 114, 32]⟩ : ByteArray) rfl (numB F.f2) (numB F.f3)
    refine ev_pos c1 (ev_pos (by omega) (Ev.bind (l1Num_ev F.f2 (by omega) (by omega)) (ev_pos (by omega) (ev_pos (by rw [ByteArray.size_append]; omega) (Ev.bind (l1Num_ev F.f3 (by omega) (by omega)) (ev_pos (by rw [z1, ByteArray.size_append]; omega) ?_))))))
    rw [← jn_app, ← e]
    exact ev_of (tail_eq _ F.f5 F.f6 (by rw [ByteArray.size_append, z1, ByteArray.size_append]; omega) s6)
  rw [if_neg c1] at hk ⊢
  refine ev_neg c1 ?_
  by_cases c2 : F.f1 = 2
  · rw [if_pos c2] at hk ⊢
    simp only [Bool.and_eq_true, decide_eq_true_eq] at hk
    have n2 := numB_small F.f2 (by omega) (by omega)
    have n3 := numB_small F.f3 (by omega) (by omega)
    have z6 : (F.f0 ++ (⟨#[32, 116, 101, 120, 116, 32]⟩ : ByteArray)).size = F.f0.size + 6 := by rw [ByteArray.size_append]; rfl
    have e := two_words F.f0 (⟨#[116, 101, 120, 116]⟩ : ByteArray) (⟨#[32, 116, 101, 120, 116, 32]⟩ : ByteArray) rfl (numB F.f2) (numB F.f3)
    refine ev_pos c2 (ev_pos (by omega) (Ev.bind (l1Num_ev F.f2 (by omega) (by omega)) (ev_pos (by omega) (ev_pos (by rw [ByteArray.size_append]; omega) (Ev.bind (l1Num_ev F.f3 (by omega) (by omega)) (ev_pos (by rw [z1, ByteArray.size_append]; omega) ?_))))))
    rw [← jn_app, ← e]
    exact ev_of (tail_eq _ F.f5 F.f6 (by rw [ByteArray.size_append, z1, ByteArray.size_append]; omega) s6)
  rw [if_neg c2] at hk ⊢
  refine ev_neg c2 ?_
  by_cases c3 : F.f1 = 3
  · rw [if_pos c3]
    refine ev_pos c3 (ev_pos (by omega) ?_)
    have z7 : (F.f0 ++ (⟨#[32, 99, 104, 111, 105, 99, 101]⟩ : ByteArray)).size = F.f0.size + 7 := by rw [ByteArray.size_append]; rfl
    have e : F.f0 ++ (⟨#[32, 99, 104, 111, 105, 99, 101]⟩ : ByteArray) = jn F.f0 [⟨#[99, 104, 111, 105, 99, 101]⟩] := by
      show _ = (F.f0 ++ (⟨#[32]⟩ : ByteArray)) ++ (⟨#[99, 104, 111, 105, 99, 101]⟩ : ByteArray)
      rw [ByteArray.append_assoc]; rfl
    have hL := ev_scan0 (L := fun k (s : ByteArray) i => spec_l23Line.l0 k s i F.f0 F.f1 F.f2 F.f3 F.f4 F.f5 F.f6) (G := fun s i (r : List ByteArray) => jn (jn s r) (needW F.f5 ++ ifW F.f6)) (fun s i r => s.size ≤ 2000000 + 1048577 * i) F.f4 (F.f0 ++ (⟨#[32, 99, 104, 111, 105, 99, 101]⟩ : ByteArray)) (by rw [z7]; omega) ?h1 ?h2
    case h1 =>
      intro s hI
      refine Ev.step (fun k => rfl) (ev_neg (by omega) (ev_of (tail_eq s F.f5 F.f6 (by omega) s6)))
    case h2 =>
      intro s i x r hI hi hd hx hgo
      have hxs : x.size ≤ 1048576 := by rw [← hx ByteArray.empty, getD_in hi]; exact s5 _ (List.getElem_mem _)
      have hr : rdOf ByteArray.empty F.f4 (i : Int) = x := by unfold rdOf; rw [Int.toNat_natCast]; exact hx _
      refine Ev.step (fun k => rfl) (ev_pos (by omega) (ev_pos (by omega) (ev_pos (by omega) (ev_pos (by rw [hr, z1]; omega) ?_))))
      rw [hr, wrap_succ hi (by omega)]
      exact hgo _ (by rw [ByteArray.size_append, z1]; omega)
    refine ev_cast hL ?_
    rw [e, jn_app, jn_app]
    rfl
  rw [if_neg c3]
  refine ev_neg c3 (ev_pos (by omega) ?_)
  have z5 : (F.f0 ++ (⟨#[32, 102, 108, 97, 103]⟩ : ByteArray)).size = F.f0.size + 5 := by rw [ByteArray.size_append]; rfl
  have e : F.f0 ++ (⟨#[32, 102, 108, 97, 103]⟩ : ByteArray) = jn F.f0 [⟨#[102, 108, 97, 103]⟩] := by
    show _ = (F.f0 ++ (⟨#[32]⟩ : ByteArray)) ++ (⟨#[102, 108, 97, 103]⟩ : ByteArray)
    rw [ByteArray.append_assoc]; rfl
  rw [← jn_app, ← e]
  exact ev_of (tail_eq _ F.f5 F.f6 (by rw [z5]; omega) s6)
end Go.Proofs.YtcjloeeomhiblaaDoor.X
set_option linter.unusedVariables false
set_option linter.unusedSimpArgs false
namespace Go.Proofs.YtcjloeeomhiblaaDoor.X
open Go.RowKit Go.Proofs.YtcjloeeomhiblaaDoorW.PrintWords Go.Proofs.YtcjloeeomhiblaaDoor.E
theorem wsum_app (a b : List ByteArray) : wsum (a ++ b) = wsum a + wsum b := by simp [wsum]
theorem join_f (x : ByteArray) (ws : List ByteArray) (h : x.size + wsum ws ≤ 100000000000) (h2 : ws.length ≤ 1000) : strings_Join.f (x :: ws) (⟨#[32]⟩ : ByteArray) = some (jn x ws) := by
  have e : (⟨#[32]⟩ : ByteArray).data.toList = [32] := rfl
  unfold strings_Join.f
  rw [e, if_pos ⟨by rw [join_len]; omega, by rw [List.length_cons]; omega⟩, join_jn]
theorem implJ_ev (F : Field) (us : List ByteArray) (hu : us.length ≤ 10) (hz : F.f0.size + wsum us ≤ 100000000) (h6 : F.f6.size ≤ 1048576) :
    Ev (fun k => impl_fieldLine.j0 k (F.f0 :: us) F.f0 F.f1 F.f2 F.f3 F.f4 F.f5 F.f6) (jn F.f0 (us ++ (needW F.f5 ++ ifW F.f6))) := by
  have fin : ∀ vs : List ByteArray, vs.length ≤ 3 → (∀ s ∈ vs, s.size ≤ 1048576) → strings_Join.f (F.f0 :: (us ++ vs)) (⟨#[32]⟩ : ByteArray) = some (jn F.f0 (us ++ vs)) := by
    intro vs h1 h2
    have := wsum_le h2
    refine join_f _ _ ?_ (by rw [List.length_append]; omega)
    rw [wsum_app]
    have : 1048577 * vs.length ≤ 1048577 * 3 := Nat.mul_le_mul_left _ h1
    omega
  have hn : (⟨#[110, 101, 101, 100, 101, 100]⟩ : ByteArray).size ≤ 1048576 := by decide
  have hi : (⟨#[105, 102]⟩ : ByteArray).size ≤ 1048576 := by decide
  refine Ev.step (fun k => rfl) ?_
  by_cases c5 : F.f5 = true
  · rw [show needW F.f5 = [⟨#[110, 101, 101, 100, 101, 100]⟩] from by unfold needW; exact if_pos c5]
    refine ev_pos c5 (ev_pos (by rw [List.length_cons]; omega) (ev_some ?_))
    by_cases c6 : F.f6.toList = ([] : List UInt8)
    · rw [show ifW F.f6 = [] from by unfold ifW; exact if_pos c6]
      have h := fin [⟨#[110, 101, 101, 100, 101, 100]⟩] (by simp) (List.forall_mem_cons.2 ⟨hn, fun _ h => nomatch h⟩)
      rw [← List.cons_append] at h
      exact ev_pos c6 (ev_bind0 h (ev_now rfl))
    · rw [show ifW F.f6 = [⟨#[105, 102]⟩, F.f6] from by unfold ifW; exact if_neg c6]
      have h := fin [⟨#[110, 101, 101, 100, 101, 100]⟩, ⟨#[105, 102]⟩, F.f6] (by simp) (List.forall_mem_cons.2 ⟨hn, List.forall_mem_cons.2 ⟨hi, List.forall_mem_cons.2 ⟨h6, fun _ h => nomatch h⟩⟩⟩)
      have e : F.f0 :: (us ++ [⟨#[110, 101, 101, 100, 101, 100]⟩, ⟨#[105, 102]⟩, F.f6]) = (F.f0 :: us ++ [⟨#[110, 101, 101, 100, 101, 100]⟩]) ++ [⟨#[105, 102]⟩, F.f6] := by simp
      rw [e] at h
      exact ev_neg c6 (ev_some (ev_pos (by simp only [List.length_cons, List.length_append, List.length_nil]; omega) (ev_bind0 h (ev_now rfl))))
  · rw [show needW F.f5 = [] from by unfold needW; exact if_neg c5]
    refine ev_neg c5 ?_
    by_cases c6 : F.f6.toList = ([] : List UInt8)
    · rw [show ifW F.f6 = [] from by unfold ifW; exact if_pos c6]
      have h := fin [] (by simp) (fun _ h => nomatch h)
      rw [List.append_nil] at h
      exact ev_pos c6 (ev_bind0 h (ev_now (by simp)))
    · rw [show ifW F.f6 = [⟨#[105, 102]⟩, F.f6] from by unfold ifW; exact if_neg c6]
      have h := fin [⟨#[105, 102]⟩, F.f6] (by simp) (List.forall_mem_cons.2 ⟨hi, List.forall_mem_cons.2 ⟨h6, fun _ h => nomatch h⟩⟩)
      rw [← List.cons_append] at h
      exact ev_neg c6 (ev_some (ev_pos (by simp only [List.length_cons, List.length_nil]; omega) (ev_bind0 h (ev_now rfl))))
theorem itoaF (n : Int) (h0 : -999999 ≤ n) (h1 : n ≤ 999999) : strconv_Itoa.f n = some (numB n) := by unfold strconv_Itoa.f; rw [if_pos ⟨by omega, by omega⟩]; rfl
theorem kindW_len (F : Field) (h : F.f4.length ≤ 6) : (kindW F).length ≤ 7 := by
  unfold kindW
  split
  · simp
  · split
    · simp
    · split
      · simp only [List.length_cons]; omega
      · simp
theorem kindW_size (F : Field) (hk : kindOk F = true) (hs : Small F) : ∀ s ∈ kindW F, s.size ≤ 1048576 := by
  obtain ⟨s0, s4, s5, s6⟩ := hs
  unfold kindOk at hk
  unfold kindW
  by_cases c1 : F.f1 = 1
  · rw [if_pos c1] at hk ⊢
    simp only [Bool.and_eq_true, decide_eq_true_eq] at hk
    have n2 := numB_small F.f2 (by omega) (by omega)
    have n3 := numB_small F.f3 (by omega) (by omega)
    exact List.forall_mem_cons.2 ⟨by decide, List.forall_mem_cons.2 ⟨by omega, List.forall_mem_cons.2 ⟨by omega, fun _ h => nomatch h⟩⟩⟩
  rw [if_neg c1] at hk ⊢
  by_cases c2 : F.f1 = 2
  · rw [if_pos c2] at hk ⊢
    simp only [Bool.and_eq_true, decide_eq_true_eq] at hk
    have n2 := numB_small F.f2 (by omega) (by omega)
    have n3 := numB_small F.f3 (by omega) (by omega)
    exact List.forall_mem_cons.2 ⟨by decide, List.forall_mem_cons.2 ⟨by omega, List.forall_mem_cons.2 ⟨by omega, fun _ h => nomatch h⟩⟩⟩
  rw [if_neg c2]
  by_cases c3 : F.f1 = 3
  · rw [if_pos c3]
    exact List.forall_mem_cons.2 ⟨by decide, s5⟩
  rw [if_neg c3]
  exact List.forall_mem_cons.2 ⟨by decide, fun _ h => nomatch h⟩
theorem implLine_ev (F : Field) (hk : kindOk F = true) (hs : Small F) : Ev (fun k => impl_fieldLine.f k F.f0 F.f1 F.f2 F.f3 F.f4 F.f5 F.f6) (lineB F) := by
  have hw := wsum_le (kindW_size F hk hs)
  have hwl := kindW_len F hs.2.1
  have hw2 : wsum (kindW F) ≤ 1048577 * 7 := Nat.le_trans hw (Nat.mul_le_mul_left _ hwl)
  have hJ := implJ_ev F (kindW F) (by omega) (by have := hs.1; omega) hs.2.2.2
  obtain ⟨s0, s4, s5, s6⟩ := hs
  unfold impl_fieldLine.f lineB
  refine ev_some ?_
  unfold kindOk at hk
  by_cases c1 : F.f1 = 1
  · have e : kindW F = [⟨#[110, 117, 109, 98, 101, 114]⟩, numB F.f2, numB F.f3] := by unfold kindW; rw [if_pos c1]
    rw [if_pos c1] at hk
    simp only [Bool.and_eq_true, decide_eq_true_eq] at hk
    rw [e] at hJ ⊢
    exact ev_pos c1 (ev_bind0 (itoaF F.f2 (by omega) (by omega)) (ev_bind0 (itoaF F.f3 (by omega) (by omega)) (ev_some (ev_pos (by simp) hJ))))
  rw [if_neg c1] at hk
  refine ev_neg c1 ?_
  by_cases c2 : F.f1 = 2
  · have e : kindW F = [⟨#[116, 101, 120, 116]⟩, numB F.f2, numB F.f3] := by unfold kindW; rw [if_neg c1, if_pos c2]
    rw [if_pos c2] at hk
    simp only [Bool.and_eq_true, decide_eq_true_eq] at hk
    rw [e] at hJ ⊢
    exact ev_pos c2 (ev_bind0 (itoaF F.f2 (by omega) (by omega)) (ev_bind0 (itoaF F.f3 (by omega) (by omega)) (ev_some (ev_pos (by simp) hJ))))
  refine ev_neg c2 ?_
  by_cases c3 : F.f1 = 3
  · have e : kindW F = ⟨#[99, 104, 111, 105, 99, 101]⟩ :: F.f4 := by unfold kindW; rw [if_neg c1, if_neg c2, if_pos c3]
    rw [e] at hJ ⊢
    exact ev_pos c3 (ev_pos (by simp) (ev_some (ev_pos (by simp only [List.length_cons, List.length_append, List.length_nil]; omega) hJ)))
  · have e : kindW F = [⟨#[102, 108, 97, 103]⟩] := by unfold kindW; rw [if_neg c1, if_neg c2, if_neg c3]
    rw [e] at hJ ⊢
    exact ev_neg c3 (ev_pos (by simp) hJ)
theorem ifW_mem (x : ByteArray) (h : x.size ≤ 1048576) : (ifW x).length ≤ 2 ∧ ∀ s ∈ ifW x, s.size ≤ 1048576 := by
  unfold ifW
  split
  · exact ⟨by simp, fun _ h => nomatch h⟩
  · exact ⟨by simp, List.forall_mem_cons.2 ⟨by decide, List.forall_mem_cons.2 ⟨h, fun _ h => nomatch h⟩⟩⟩
theorem needW_mem (b : Bool) : (needW b).length ≤ 1 ∧ ∀ s ∈ needW b, s.size ≤ 1048576 := by
  unfold needW
  split
  · exact ⟨by simp, List.forall_mem_cons.2 ⟨by decide, fun _ h => nomatch h⟩⟩
  · exact ⟨by simp, fun _ h => nomatch h⟩
theorem lineB_size (F : Field) (hk : kindOk F = true) (hs : Small F) : (lineB F).size ≤ 20000000 := by
  have hw := wsum_le (kindW_size F hk hs)
  have hw2 := Nat.mul_le_mul_left 1048577 (kindW_len F hs.2.1)
  obtain ⟨a1, a2⟩ := ifW_mem F.f6 hs.2.2.2
  obtain ⟨b1, b2⟩ := needW_mem F.f5
  have a3 := wsum_le a2
  have b3 := wsum_le b2
  have a4 := Nat.mul_le_mul_left 1048577 a1
  have b4 := Nat.mul_le_mul_left 1048577 b1
  have := hs.1
  unfold lineB
  rw [jn_size, wsum_app, wsum_app]
  omega
def isN (x : ByteArray) : Bool := x.toList == ([110, 101, 101, 100, 101, 100] : List UInt8)
def isI (x : ByteArray) : Bool := x.toList == ([105, 102] : List UInt8)
def badF (F : Field) : Bool := F.f4.any isN || F.f4.any isI
theorem good_all (F : Field) : (List.range F.f4.length).all (fun j => !(isN (F.f4.getD j ByteArray.empty)) && !(isI (F.f4.getD j ByteArray.empty))) = !(badF F) := by
  unfold badF
  rw [Bool.eq_iff_iff, all_range, Bool.not_eq_true', Bool.or_eq_false_iff, List.any_eq_false, List.any_eq_false]
  constructor
  · intro h
    constructor
    · intro x hx
      obtain ⟨i, hi, rfl⟩ := List.getElem_of_mem hx
      have := h i hi
      rw [getD_in hi] at this
      simp at this
      simp [this.1]
    · intro x hx
      obtain ⟨i, hi, rfl⟩ := List.getElem_of_mem hx
      have := h i hi
      rw [getD_in hi] at this
      simp at this
      simp [this.2]
  · rintro ⟨h1, h2⟩ i hi
    rw [getD_in hi]
    have a := h1 _ (List.getElem_mem hi)
    have b := h2 _ (List.getElem_mem hi)
    simp at a b
    simp [a, b]
def linesUp (form : List Field) : Nat → List ByteArray
  | 0 => []
  | i + 1 => linesUp form i ++ [lineB (form.getD i zF)]
theorem linesUp_len (form : List Field) : ∀ i, (linesUp form i).length = i
  | 0 => rfl
  | i + 1 => by rw [linesUp, List.length_append, linesUp_len form i]; rfl
theorem linesUp_get (form : List Field) : ∀ n i, i < n → (linesUp form n).getD i ByteArray.empty = lineB (form.getD i zF)
  | n + 1, i, h => by
    rw [linesUp, List.getD_eq_getElem?_getD]
    by_cases c : i < n
    · rw [List.getElem?_append_left (by rw [linesUp_len]; exact c), ← List.getD_eq_getElem?_getD]
      exact linesUp_get form n i c
    · obtain rfl : i = n := by omega
      rw [List.getElem?_append_right (by rw [linesUp_len]; omega), linesUp_len, Nat.sub_self]
      rfl
def textUp (form : List Field) : Nat → ByteArray
  | 0 => ⟨#[]⟩
  | i + 1 => (textUp form i ++ lineB (form.getD i zF)) ++ (⟨#[10]⟩ : ByteArray)
structure FormOk (form : List Field) : Prop where
  len : form.length ≤ 10
  kind : ∀ i, i < form.length → kindOk (form.getD i zF) = true
  small : ∀ i, i < form.length → Small (form.getD i zF)
theorem textUp_size {form : List Field} (V : FormOk form) : ∀ i, i ≤ form.length → (textUp form i).size ≤ 20000001 * i
  | 0, _ => Nat.le_refl _
  | i + 1, h => by
    have h1 := textUp_size V i (by omega)
    have h2 := lineB_size _ (V.kind i (by omega)) (V.small i (by omega))
    have h3 : (⟨#[10]⟩ : ByteArray).size = 1 := rfl
    rw [textUp, ByteArray.size_append, ByteArray.size_append]
    omega
theorem implNl_ev {form : List Field} (V : FormOk form) : Ev (fun k => impl_withNewlines.f k (linesUp form form.length)) (textUp form form.length) := by
  have hlen := V.len
  have hll := linesUp_len form form.length
  have h := ev_all (L := fun k (s : ByteArray) i => impl_withNewlines.l0 k s (linesUp form form.length) ((linesUp form form.length).length : Int) i) form.length (textUp form) (fun _ => true) ⟨#[]⟩ (textUp form form.length) (fun _ => Ev.step (fun k => rfl) (ev_neg (by rw [hll]; omega) (ev_now rfl))) ?h1 (fun i hi _ hc => nomatch hc)
  case h1 =>
    intro i hi _ _ y hy
    have h1 := textUp_size V i (by omega)
    have h2 := lineB_size _ (V.kind i hi) (V.small i hi)
    have h3 : (lineB (form.getD i zF) ++ (⟨#[10]⟩ : ByteArray)).size = (lineB (form.getD i zF)).size + 1 := by rw [ByteArray.size_append]; rfl
    have hr : rdOf ByteArray.empty (linesUp form form.length) (i : Int) = lineB (form.getD i zF) := by unfold rdOf; rw [Int.toNat_natCast, linesUp_get form _ i hi]
    refine Ev.step (fun k => rfl) (ev_pos (by rw [hll]; omega) (ev_pos (by omega) (ev_pos (by rw [hll]; omega) (ev_pos (by rw [hr]; omega) (ev_pos (by rw [hr, h3]; omega) ?_)))))
    rw [hr, wrap_succ hi (by omega), ← ByteArray.append_assoc]
    exact hy
  rw [if_pos (by rw [all_range]; intro i hi; rfl)] at h
  exact h
def allGood (form : List Field) : Bool := (List.range form.length).all (fun i => !(badF (form.getD i zF)))
def fmtB (form : List Field) : ByteArray × Bool := if allGood form = true then (textUp form form.length, true) else (⟨#[]⟩, false)
theorem implFmt_ev {form : List Field} (V : FormOk form) : Ev (fun k => impl_FormatForm.l0 k ([] : List ByteArray) form (form.length : Int) 0) (fmtB form) := by
  have hlen := V.len
  refine ev_all (L := fun k (s : List ByteArray) i => impl_FormatForm.l0 k s form (form.length : Int) i) form.length (linesUp form) (fun i => !(badF (form.getD i zF))) (⟨#[]⟩, false) (textUp form form.length, true) (fun _ => Ev.step (fun k => rfl) (ev_neg (by omega) (Ev.bind (implNl_ev V) (ev_now rfl)))) ?h1 ?h2
  case h1 =>
    intro i hi _ hc y hy
    have hk := V.kind i hi
    have hs := V.small i hi
    have hll := linesUp_len form i
    have hrd : rd_T31 form (i : Int) = form.getD i zF := by unfold rd_T31; rw [Int.toNat_natCast]
    rw [linesUp] at hy
    generalize hF : form.getD i zF = F at *
    have c1 := slicesContainsStr_ev F.f4 (⟨#[110, 101, 101, 100, 101, 100]⟩ : ByteArray) (by have := hs.2.1; omega)
    have c2 := slicesContainsStr_ev F.f4 (⟨#[105, 102]⟩ : ByteArray) (by have := hs.2.1; omega)
    unfold badF at hc
    simp only [Bool.not_eq_true', Bool.or_eq_false_iff] at hc
    refine Ev.step (fun k => rfl) (ev_pos (by omega) (ev_pos (by omega) (ev_pos (by omega) ?_)))
    rw [hrd]
    rw [show (F.f4.any fun x => x.toList == (⟨#[110, 101, 101, 100, 101, 100]⟩ : ByteArray).toList) = false from by rw [Lib.toList_data]; exact hc.1] at c1
    rw [show (F.f4.any fun x => x.toList == (⟨#[105, 102]⟩ : ByteArray).toList) = false from by rw [Lib.toList_data]; exact hc.2] at c2
    refine Ev.bind c1 (ev_neg (by simp) (Ev.bind c2 (ev_neg (by simp) (Ev.bind (implLine_ev F hk hs) (ev_pos (by omega) ?_)))))
    rw [wrap_succ hi (by omega)]
    exact hy
  case h2 =>
    intro i hi _ hc
    have hs := V.small i hi
    have hrd : rd_T31 form (i : Int) = form.getD i zF := by unfold rd_T31; rw [Int.toNat_natCast]
    generalize hF : form.getD i zF = F at *
    have c1 := slicesContainsStr_ev F.f4 (⟨#[110, 101, 101, 100, 101, 100]⟩ : ByteArray) (by have := hs.2.1; omega)
    have c2 := slicesContainsStr_ev F.f4 (⟨#[105, 102]⟩ : ByteArray) (by have := hs.2.1; omega)
    rw [show (F.f4.any fun x => x.toList == (⟨#[110, 101, 101, 100, 101, 100]⟩ : ByteArray).toList) = F.f4.any isN from by rw [Lib.toList_data]; rfl] at c1
    rw [show (F.f4.any fun x => x.toList == (⟨#[105, 102]⟩ : ByteArray).toList) = F.f4.any isI from by rw [Lib.toList_data]; rfl] at c2
    unfold badF at hc
    refine Ev.step (fun k => rfl) (ev_pos (by omega) (ev_pos (by omega) (ev_pos (by omega) ?_)))
    rw [hrd]
    cases hn : F.f4.any isN
    · rw [hn] at c1 hc
      cases hi2 : F.f4.any isI
      · rw [hi2] at hc; simp at hc
      · rw [hi2] at c2
        exact Ev.bind c1 (ev_neg (by simp) (Ev.bind c2 (ev_pos rfl (ev_now rfl))))
    · rw [hn] at c1
      exact Ev.bind c1 (ev_pos rfl (ev_now rfl))
theorem specFmt_ev {form : List Field} (V : FormOk form) : Ev (fun k => spec_l23Lines.f k form) (fmtB form) := by
  have hlen := V.len
  have inner : ∀ i, i < form.length → ∀ (s : ByteArray) y, ((!(badF (form.getD i zF))) = true → Ev (fun k => (spec_l23Line.f k (form.getD i zF).f0 (form.getD i zF).f1 (form.getD i zF).f2 (form.getD i zF).f3 (form.getD i zF).f4 (form.getD i zF).f5 (form.getD i zF).f6).bind fun t107 => (if s.size + t107.size ≤ 9223372036854775807 then (if (s ++ t107).size + 1 ≤ 9223372036854775807 then (spec_l23Lines.l0 k form ((s ++ t107) ++ (⟨#[10]⟩ : ByteArray)) (wrap64 ((i : Int) + 1))) else (none)) else (none))) y) →
      Ev (fun k => spec_l23Lines.l1 k form s i 0) (if (!(badF (form.getD i zF))) = true then y else (⟨#[]⟩, false)) := by
    intro i hi s y hy
    have hs := V.small i hi
    have hrd : rd_T31 form (i : Int) = form.getD i zF := by unfold rd_T31; rw [Int.toNat_natCast]
    rw [← good_all] at hy ⊢
    generalize hF : form.getD i zF = F at *
    have h4 := hs.2.1
    refine ev_all0 (L := fun k j => spec_l23Lines.l1 k form s i j) F.f4.length _ (⟨#[]⟩, false) y ?_ ?_ ?_
    · intro hC
      have hy := hy (by rw [all_range]; exact hC)
      refine Ev.step (fun k => rfl) (ev_pos (by omega) (ev_pos (by omega) ?_))
      rw [hrd]
      exact ev_neg (by omega) hy
    · intro j hj _ hc y hy
      simp only [isN, isI, Bool.and_eq_true, Bool.not_eq_true', beq_eq_false_iff_ne] at hc
      have hr : rdOf ByteArray.empty F.f4 (j : Int) = F.f4.getD j ByteArray.empty := by unfold rdOf; rw [Int.toNat_natCast]
      refine Ev.step (fun k => rfl) (ev_pos (by omega) (ev_pos (by omega) ?_))
      rw [hrd]
      refine ev_pos (by omega) (ev_pos (by omega) (ev_neg (by rw [hr]; exact hc.1) (ev_neg (by rw [hr]; exact hc.2) ?_)))
      rw [wrap_succ hj (by omega)]
      exact hy
    · intro j hj _ hc
      have hr : rdOf ByteArray.empty F.f4 (j : Int) = F.f4.getD j ByteArray.empty := by unfold rdOf; rw [Int.toNat_natCast]
      refine Ev.step (fun k => rfl) (ev_pos (by omega) (ev_pos (by omega) ?_))
      rw [hrd]
      refine ev_pos (by omega) (ev_pos (by omega) (ev_ite (fun _ => ev_now rfl) (fun c => ev_pos ?_ (ev_now rfl))))
      rw [hr] at c ⊢
      simp only [isN, isI, Bool.and_eq_false_iff, Bool.not_eq_false', beq_iff_eq] at hc
      exact hc.resolve_left c
  refine ev_all (L := fun k (s : ByteArray) i => spec_l23Lines.l0 k form s i) form.length (textUp form) (fun i => !(badF (form.getD i zF))) (⟨#[]⟩, false) (textUp form form.length, true) (fun _ => Ev.step (fun k => rfl) (ev_neg (by omega) (ev_now rfl))) ?h1 ?h2
  case h1 =>
    intro i hi _ hc y hy
    have h1 := textUp_size V i (by omega)
    have h2 := lineB_size _ (V.kind i hi) (V.small i hi)
    have hin := inner i hi (textUp form i) y (fun _ => ?_)
    · rw [if_pos hc] at hin
      exact Ev.step (fun k => rfl) (ev_pos (by omega) hin)
    · refine Ev.bind (specLine_ev _ (V.kind i hi) (V.small i hi)) (ev_pos (by omega) (ev_pos (by rw [ByteArray.size_append]; omega) ?_))
      rw [wrap_succ hi (by omega)]
      exact hy
  case h2 =>
    intro i hi _ hc
    have hin := inner i hi (textUp form i) (⟨#[]⟩, false) (fun h => by rw [hc] at h; cases h)
    rw [if_neg (by rw [hc]; simp)] at hin
    exact Ev.step (fun k => rfl) (ev_pos (by omega) hin)
end Go.Proofs.YtcjloeeomhiblaaDoor.X
set_option linter.unusedVariables false
set_option linter.unusedSimpArgs false
namespace Go.Proofs.YtcjloeeomhiblaaDoor.X
open Go.RowKit Go.Proofs.YtcjloeeomhiblaaDoorW.PrintWords Go.Proofs.YtcjloeeomhiblaaDoor.E
theorem dec_digit : ∀ (u : Nat), ∀ c ∈ Lib.decDigits u, 48 ≤ c.toNat ∧ c.toNat ≤ 57 := by
  intro u
  induction u using Nat.strongRecOn with
  | _ u ih =>
    intro c hc
    have one : ∀ d, d < 10 → 48 ≤ (UInt8.ofNat (48 + d)).toNat ∧ (UInt8.ofNat (48 + d)).toNat ≤ 57 := by
      intro d hd
      have : ∀ j : Fin 10, 48 ≤ (UInt8.ofNat (48 + j.val)).toNat ∧ (UInt8.ofNat (48 + j.val)).toNat ≤ 57 := by decide +kernel
      exact this ⟨d, hd⟩
    rw [Lib.decDigits] at hc
    split at hc
    · rw [List.mem_singleton.1 hc]; exact one u (by omega)
    · rcases List.mem_append.1 hc with h | h
      · exact ih (u / 10) (by omega) c h
      · rw [List.mem_singleton.1 h]; exact one _ (by omega)
theorem dec_one (d : Nat) (hd : d < 10) : (UInt8.ofNat (48 + d)).toNat = 48 + d := by
  have : ∀ j : Fin 10, (UInt8.ofNat (48 + j.val)).toNat = 48 + j.val := by decide +kernel
  exact this ⟨d, hd⟩
theorem dec_len : ∀ (k u : Nat), u < 10 ^ (k + 1) → 1 ≤ (Lib.decDigits u).length ∧ (Lib.decDigits u).length ≤ k + 1 := by
  intro k
  induction k with
  | zero =>
    intro u hu
    rw [Lib.decDigits, dif_pos (by simpa using hu)]
    simp
  | succ k ih =>
    intro u hu
    rw [Lib.decDigits]
    split
    · simp
    · have := ih (u / 10) (by rw [Nat.pow_succ] at hu; omega)
      rw [List.length_append, List.length_singleton]
      omega
def dv (l : List UInt8) : Int := l.foldl (fun a c => 10 * a + ((c.toNat : Int) - 48)) 0
theorem dv_snoc (l : List UInt8) (c : UInt8) : dv (l ++ [c]) = 10 * dv l + ((c.toNat : Int) - 48) := by unfold dv; rw [List.foldl_append]; rfl
theorem dv_dec : ∀ (u : Nat), dv (Lib.decDigits u) = (u : Int) := by
  intro u
  induction u using Nat.strongRecOn with
  | _ u ih =>
    rw [Lib.decDigits]
    split
    · rename_i h
      show dv ([] ++ [UInt8.ofNat (48 + u)]) = _
      rw [dv_snoc, dec_one u h]
      simp [dv]
      omega
    · rw [dv_snoc, ih (u / 10) (by omega), dec_one _ (by omega)]
      omega
theorem pu_snoc : ∀ (l : List UInt8) (acc m : Nat) (c : UInt8), Lib.parseUint10 acc l = .ok m → m < 1000000000000 → 48 ≤ c.toNat ∧ c.toNat ≤ 57 → Lib.parseUint10 acc (l ++ [c]) = .ok (m * 10 + (c.toNat - 48))
  | [], acc, m, c, h, hm, hc => by
    simp only [Lib.parseUint10] at h
    injection h with h
    subst h
    simp only [List.nil_append, Lib.parseUint10]
    rw [if_pos hc, if_neg (by omega), if_neg (by omega)]
  | b :: r, acc, m, c, h, hm, hc => by
    simp only [Lib.parseUint10] at h
    simp only [List.cons_append, Lib.parseUint10]
    split at h
    · rename_i h1
      rw [if_pos h1]
      split at h
      · cases h
      · rename_i h2
        rw [if_neg h2]
        split at h
        · cases h
        · rename_i h3
          rw [if_neg h3]
          exact pu_snoc r _ m c h hm hc
    · cases h
theorem pu_dec : ∀ (u : Nat), u < 1000000000000 → Lib.parseUint10 0 (Lib.decDigits u) = .ok u := by
  intro u
  induction u using Nat.strongRecOn with
  | _ u ih =>
    intro hu
    rw [Lib.decDigits]
    split
    · rename_i h
      have := pu_snoc [] 0 0 (UInt8.ofNat (48 + u)) rfl (by omega) (by rw [dec_one u h]; omega)
      rw [List.nil_append, dec_one u h] at this
      rw [this]
      congr 1
      omega
    · have := pu_snoc _ 0 (u / 10) (UInt8.ofNat (48 + u % 10)) (ih (u / 10) (by omega) (by omega)) (by omega) (by rw [dec_one _ (by omega)]; omega)
      rw [this, dec_one _ (by omega)]
      congr 1
      omega
theorem dec_ne (u : Nat) : Lib.decDigits u ≠ [] := by
  rw [Lib.decDigits]
  split <;> simp
theorem mag_dec (u : Nat) (hu : u < 1000000000000) : Lib.parseMag (Lib.decDigits u) = .ok u := by
  unfold Lib.parseMag
  rw [if_neg (dec_ne u)]
  exact pu_dec u hu
theorem atoi_itoa (v : Int) (h0 : -999999 ≤ v) (h1 : v ≤ 999999) : Lib.atoiAll (Lib.itoa v) = .ok v := by
  unfold Lib.itoa
  by_cases c : v < 0
  · rw [if_pos c, Lib.atoiAll_minus, mag_dec _ (by omega)]
    simp only [Lib.signed]
    rw [if_neg (by omega)]
    congr 1
    omega
  · rw [if_neg c]
    have hm := mag_dec v.toNat (by omega)
    cases hd : Lib.decDigits v.toNat with
    | nil => exact absurd hd (dec_ne _)
    | cons b r =>
      have hb := dec_digit v.toNat b (by rw [hd]; exact List.mem_cons_self ..)
      rw [hd] at hm
      rw [Lib.atoiAll_plain b r (by omega) (by omega), hm]
      simp only [Lib.signless]
      rw [if_neg (by omega)]
      congr 1
      omega
def IsNum (s : ByteArray) : Prop := ∃ v : Int, -999999 ≤ v ∧ v ≤ 999999 ∧ s = numB v
theorem parse_num {v : Int} (h0 : -999999 ≤ v) (h1 : v ≤ 999999) : parseE (numB v) = (v, true) := by
  unfold parseE
  have e : (numB v).data.toList = Lib.itoa v := by unfold numB; simp
  rw [e, atoi_itoa v h0 h1]
  exact if_pos ⟨⟨h0, h1⟩, rfl⟩
theorem parse_not {s : ByteArray} (h : ¬ IsNum s) : parseE s = (0, false) := by
  unfold parseE
  split
  · rename_i v hv
    split
    · rename_i hc
      refine absurd ⟨v, hc.1.1, hc.1.2, ?_⟩ h
      unfold numB
      rw [hc.2]
    · rfl
  · rfl
theorem bt_list (l : List UInt8) (i : Nat) (h : i < l.length) : bt ⟨l.toArray⟩ (i : Int) = ((l[i]).toNat : Int) := by
  unfold bt
  rw [Int.toNat_natCast]
  rw [dif_pos (show i < (⟨l.toArray⟩ : ByteArray).size from h)]
  rfl
def valT (t : ByteArray) : Nat → Int
  | 0 => 0
  | i + 1 => 10 * valT t i + (bt t (i : Int) - 48)
def digT (t : ByteArray) (i : Nat) : Bool := decide (48 ≤ bt t (i : Int) ∧ bt t (i : Int) ≤ 57)
theorem valT_bound (t : ByteArray) : ∀ i, i ≤ 6 → (∀ j, j < i → digT t j = true) → 0 ≤ valT t i ∧ valT t i < (10 ^ i : Nat)
  | 0, _, _ => by simp [valT]
  | i + 1, hi, h => by
    have h1 := valT_bound t i (by omega) (fun j hj => h j (by omega))
    have h2 := of_decide_eq_true (h i (by omega))
    simp only [valT]
    have : ((10 ^ (i + 1) : Nat) : Int) = 10 * ((10 ^ i : Nat) : Int) := by rw [Nat.pow_succ]; omega
    omega
theorem valT_list (l : List UInt8) : ∀ i, i ≤ l.length → valT ⟨l.toArray⟩ i = dv (l.take i)
  | 0, _ => by simp [valT, dv]
  | i + 1, h => by
    rw [valT, valT_list l i (by omega), bt_list l i (by omega), List.take_succ_eq_append_getElem (by omega), dv_snoc]
/-- What the reference's reading comes to, the sign taken off. -/
def readT (s t : ByteArray) : Int × Bool := if (1 ≤ (t.size : Int) ∧ (t.size : Int) ≤ 6) ∧ (List.range t.size).all (digT t) = true then (if t.size < s.size then (if (numB (-(valT t t.size))).toList = s.toList then (-(valT t t.size), true) else (0, false)) else (if (numB (valT t t.size)).toList = s.toList then (valT t t.size, true) else (0, false))) else (0, false)
theorem read1_ev (s t : ByteArray) : Ev (fun k => spec_l1Read.j1 k s t) (readT s t) := by
  have hin : ∀ a l h : Int, spec_l1In.f a l h = some (decide (l ≤ a ∧ a ≤ h)) := fun a l h => by
    unfold spec_l1In.f
    by_cases h1 : a ≥ l
    · rw [if_pos h1]; congr 1; simp [h1]
    · rw [if_neg h1]; congr 1; symm; simp; intro h2; omega
  refine Ev.step (fun k => rfl) (ev_bind0 (hin _ _ _) (ev_ite (fun c => ?_) (fun c => ev_now ?_)))
  case refine_2 =>
    unfold readT
    rw [decide_eq_true_eq] at c
    rw [if_neg (fun h => c h.1)]
  rw [decide_eq_true_eq] at c
  have h := ev_all (L := fun k (n : Int) i => spec_l1Read.l0 k s t n i) t.size (valT t) (digT t) (0, false) (if t.size < s.size then (if (numB (-(valT t t.size))).toList = s.toList then (-(valT t t.size), true) else (0, false)) else (if (numB (valT t t.size)).toList = s.toList then (valT t t.size, true) else (0, false))) ?h0 ?h1 ?h2
  case h0 =>
    intro hd
    have hb := valT_bound t t.size (by omega) hd
    have hp : ((10 ^ t.size : Nat) : Int) ≤ 1000000 := by
      have : 10 ^ t.size ≤ 10 ^ 6 := Nat.pow_le_pow_right (by omega) (by omega)
      omega
    refine Ev.step (fun k => rfl) (ev_neg (by omega) ?_)
    have hw : wrap64 (-(valT t t.size)) = -(valT t t.size) := wrap_id (by omega) (by omega)
    by_cases d : t.size < s.size
    · rw [if_pos d]
      refine ev_pos (by omega) ?_
      rw [hw]
      refine Ev.bind (l1Num_ev _ (by omega) (by omega)) (ev_ite (fun e => ev_now (by rw [if_pos e])) (fun e => ev_now (by rw [if_neg e])))
    · rw [if_neg d]
      exact ev_neg (by omega) (Ev.bind (l1Num_ev _ (by omega) (by omega)) (ev_ite (fun e => ev_now (by rw [if_pos e])) (fun e => ev_now (by rw [if_neg e]))))
  case h1 =>
    intro i hi hd hc y hy
    have hb := valT_bound t i (by omega) hd
    have hp : ((10 ^ i : Nat) : Int) ≤ 1000000 := by
      have : 10 ^ i ≤ 10 ^ 6 := Nat.pow_le_pow_right (by omega) (by omega)
      omega
    have hc' := of_decide_eq_true hc
    refine Ev.step (fun k => rfl) (ev_pos (by omega) (ev_pos (by omega) (ev_neg (by omega) (ev_neg (by omega) ?_))))
    rw [wrap_succ hi (by omega), show (bt t (i : Int) - 48) % 256 = bt t (i : Int) - 48 by omega, show wrap64 (10 * valT t i) = 10 * valT t i from wrap_id (by omega) (by omega), show wrap64 (10 * valT t i + (bt t (i : Int) - 48)) = valT t (i + 1) from wrap_id (by omega) (by omega)]
    exact hy
  case h2 =>
    intro i hi _ hc
    have hc' := of_decide_eq_false hc
    refine Ev.step (fun k => rfl) (ev_pos (by omega) (ev_pos (by omega) (ev_ite (fun _ => ev_now rfl) (fun h1 => ev_pos (by omega) (ev_now rfl)))))
  refine ev_cast h ?_
  unfold readT
  by_cases d : (List.range t.size).all (digT t) = true
  · rw [if_pos d]
    exact (if_pos ⟨c, d⟩).symm
  · rw [if_neg d, if_neg (fun h => d h.2)]
def tailOf (s : ByteArray) : ByteArray := if (s.size : Int) > 1 ∧ bt s 0 = 45 then s.extract 1 s.size else s
theorem read_ev0 (s : ByteArray) : Ev (fun k => spec_l1Read.f k s) (readT s (tailOf s)) := by
  unfold spec_l1Read.f tailOf
  by_cases c : (s.size : Int) > 1
  · refine ev_pos c (ev_pos (by omega) ?_)
    by_cases d : bt s 0 = 45
    · rw [if_pos ⟨c, d⟩, show (bt s 0 == 45) = true by simpa using d]
      exact Ev.step (fun k => rfl) (show Ev (fun k => if 1 ≤ (s.size : Int) then spec_l1Read.j1 k s (s.extract 1 s.size) else none) _ from ev_pos (by omega) (read1_ev s _))
    · rw [if_neg (fun h => d h.2), show (bt s 0 == 45) = false by simpa using d]
      exact Ev.step (fun k => rfl) (show Ev (fun k => spec_l1Read.j1 k s s) _ from read1_ev s s)
  · rw [if_neg (fun h => c h.1)]
    exact ev_neg c (Ev.step (fun k => rfl) (show Ev (fun k => spec_l1Read.j1 k s s) _ from read1_ev s s))
theorem digits_all (u : Nat) : (List.range (⟨(Lib.decDigits u).toArray⟩ : ByteArray).size).all (digT ⟨(Lib.decDigits u).toArray⟩) = true := by
  rw [all_range]
  intro i hi
  have hi' : i < (Lib.decDigits u).length := hi
  unfold digT
  rw [bt_list _ i hi']
  have := dec_digit u _ (List.getElem_mem hi')
  exact decide_eq_true (by omega)
theorem val_dec (u : Nat) : valT ⟨(Lib.decDigits u).toArray⟩ (⟨(Lib.decDigits u).toArray⟩ : ByteArray).size = (u : Int) := by
  have := valT_list (Lib.decDigits u) (Lib.decDigits u).length (Nat.le_refl _)
  rw [List.take_length, dv_dec] at this
  exact this
theorem ba_inj2 {a b : ByteArray} (h : a.toList = b.toList) : a = b := by
  rw [Lib.toList_data, Lib.toList_data] at h
  exact ByteArray.ext (Array.toList_inj.1 h)
theorem readT_eq (s : ByteArray) : readT s (tailOf s) = parseE s := by
  by_cases hn : IsNum s
  · obtain ⟨v, h0, h1, rfl⟩ := hn
    rw [parse_num h0 h1]
    by_cases c : v < 0
    · have e : numB v = ⟨(45 :: Lib.decDigits v.natAbs).toArray⟩ := by unfold numB Lib.itoa; rw [if_pos c]
      have hl := dec_len 5 v.natAbs (by omega)
      have hsz : (numB v).size = 1 + (Lib.decDigits v.natAbs).length := by rw [e]; show (45 :: Lib.decDigits v.natAbs).length = _; rw [List.length_cons]; omega
      have hb : bt (numB v) 0 = 45 := by rw [e]; exact bt_list (45 :: Lib.decDigits v.natAbs) 0 (by simp)
      have ht : tailOf (numB v) = ⟨(Lib.decDigits v.natAbs).toArray⟩ := by
        unfold tailOf
        rw [if_pos ⟨by omega, hb⟩, hsz, e]
        apply ByteArray.ext
        rw [ByteArray.data_extract]
        apply Array.toList_inj.1
        rw [Array.toList_extract]
        simp [List.extract]
      have hts : (⟨(Lib.decDigits v.natAbs).toArray⟩ : ByteArray).size = (Lib.decDigits v.natAbs).length := rfl
      unfold readT
      rw [ht, if_pos ⟨⟨by omega, by omega⟩, digits_all _⟩, if_pos (by omega), val_dec, show -((v.natAbs : Nat) : Int) = v by omega, if_pos rfl]
    · have e : numB v = ⟨(Lib.decDigits v.toNat).toArray⟩ := by unfold numB Lib.itoa; rw [if_neg c]
      have hl := dec_len 5 v.toNat (by omega)
      have hts : (⟨(Lib.decDigits v.toNat).toArray⟩ : ByteArray).size = (Lib.decDigits v.toNat).length := rfl
      have ht : tailOf (numB v) = numB v := by
        unfold tailOf
        rw [if_neg]
        rintro ⟨_, hb⟩
        rw [e, show (0 : Int) = ((0 : Nat) : Int) from rfl, bt_list _ 0 (by omega)] at hb
        have := dec_digit v.toNat _ (List.getElem_mem (show 0 < (Lib.decDigits v.toNat).length by omega))
        omega
      unfold readT
      rw [ht]
      have hval : valT (numB v) (numB v).size = v := by rw [e, val_dec]; omega
      have hsz : (numB v).size = (Lib.decDigits v.toNat).length := by rw [e]; rfl
      rw [if_pos ⟨⟨by omega, by omega⟩, by rw [e]; exact digits_all _⟩, if_neg (by omega), hval, if_pos rfl]
  · rw [parse_not hn]
    unfold readT
    split
    · rename_i hc
      have hb := valT_bound (tailOf s) (tailOf s).size (by omega) (fun j hj => all_range.1 hc.2 j hj)
      have hp : ((10 ^ (tailOf s).size : Nat) : Int) ≤ 1000000 := by
        have : 10 ^ (tailOf s).size ≤ 10 ^ 6 := Nat.pow_le_pow_right (by omega) (by omega)
        omega
      split
      · split
        · rename_i he; exact absurd ⟨_, by omega, by omega, (ba_inj2 he).symm⟩ hn
        · rfl
      · split
        · rename_i he; exact absurd ⟨_, by omega, by omega, (ba_inj2 he).symm⟩ hn
        · rfl
    · rfl
theorem l1Read_ev (s : ByteArray) : Ev (fun k => spec_l1Read.f k s) (parseE s) := ev_cast (read_ev0 s) (readT_eq s)
theorem parseInt_eq (s : ByteArray) (h : s.size ≤ 281474976710656) : impl_ParseInt.f s = some (parseE s) := by unfold impl_ParseInt.f; rw [if_pos h]
end Go.Proofs.YtcjloeeomhiblaaDoor.X
set_option linter.unusedVariables false
set_option linter.unusedSimpArgs false
namespace Go.Proofs.YtcjloeeomhiblaaDoor.X
open Go.RowKit Go.Proofs.YtcjloeeomhiblaaDoorW.PrintWords Go.Proofs.YtcjloeeomhiblaaDoor.E
def mkB (l : List UInt8) : ByteArray := ⟨l.toArray⟩
theorem mkB_list (l : List UInt8) : (mkB l).data.toList = l := by unfold mkB; simp
theorem mkB_eta (x : ByteArray) : mkB x.data.toList = x := by
  apply ByteArray.ext
  unfold mkB
  simp
theorem mkB_size (l : List UInt8) : (mkB l).size = l.length := rfl
theorem mkB_extract (l : List UInt8) (a b : Nat) : (mkB l).extract a b = mkB ((l.drop a).take (b - a)) := by
  apply ByteArray.ext
  rw [ByteArray.data_extract]
  apply Array.toList_inj.1
  rw [Array.toList_extract]
  unfold mkB
  simp [List.extract]
def consH (b : UInt8) : List (List UInt8) → List (List UInt8)
  | [] => [[b]]
  | h :: t => (b :: h) :: t
def splitL (c : UInt8) : List UInt8 → List (List UInt8)
  | [] => [[]]
  | b :: r => if b = c then [] :: splitL c r else consH b (splitL c r)
def withH (p : List UInt8) : List (List UInt8) → List (List UInt8)
  | [] => [p]
  | h :: t => (p ++ h) :: t
theorem splitL_ne (c : UInt8) : ∀ l, splitL c l ≠ []
  | [] => by simp [splitL]
  | b :: r => by
    rw [splitL]
    split
    · simp
    · cases splitL c r <;> simp [consH]
theorem withH_nil {ls : List (List UInt8)} (h : ls ≠ []) : withH [] ls = ls := by
  cases ls with
  | nil => exact absurd rfl h
  | cons a t => rfl
theorem withH_cons (p : List UInt8) (b : UInt8) (ls : List (List UInt8)) : withH p (consH b ls) = withH (p ++ [b]) ls := by
  cases ls <;> simp [withH, consH]
theorem take_snoc (l : List UInt8) (s i : Nat) (hs : s ≤ i) (hi : i < l.length) : (l.drop s).take (i + 1 - s) = (l.drop s).take (i - s) ++ [l[i]] := by
  rw [show i + 1 - s = (i - s) + 1 by omega, List.take_succ_eq_append_getElem (by rw [List.length_drop]; omega), List.getElem_drop]
  congr 2
  simp only [show s + (i - s) = i by omega]
theorem split_go (l : List UInt8) (c : UInt8) (hl : l.length < 8796093022208) : ∀ (n i st : Nat) (out : List ByteArray), l.length - i = n → st ≤ i → i ≤ l.length → out.length ≤ st →
    Ev (fun k => spec_l1Split.l0 k (mkB l) (c.toNat : Int) out (st : Int) (i : Int)) (out ++ (withH ((l.drop st).take (i - st)) (splitL c (l.drop i))).map mkB) := by
  have hz := mkB_size l
  intro n
  induction n with
  | zero =>
    intro i st out hn hs hi ho
    obtain rfl : i = l.length := by omega
    refine Ev.step (fun k => rfl) (ev_neg (by omega) (ev_pos (by omega) (ev_pos (by omega) (ev_pos (by omega) (ev_now ?_)))))
    rw [Int.toNat_natCast, mkB_extract, hz, List.drop_length]
    simp [splitL, withH]
  | succ n ih =>
    intro i st out hn hs hi ho
    have hlt : i < l.length := by omega
    have hd : l.drop i = l[i] :: l.drop (i + 1) := List.drop_eq_getElem_cons hlt
    have hb : bt (mkB l) (i : Int) = ((l[i]).toNat : Int) := bt_list l i hlt
    rw [hd, splitL]
    by_cases hc : l[i] = c
    · rw [if_pos hc]
      have h := ih (i + 1) (i + 1) (out ++ [mkB ((l.drop st).take (i - st))]) (by omega) (Nat.le_refl _) (by omega) (by rw [List.length_append, List.length_singleton]; omega)
      rw [Nat.sub_self, List.take_zero, withH_nil (splitL_ne c _), List.append_assoc] at h
      refine Ev.step (fun k => rfl) (ev_pos (by omega) (ev_pos (by omega) (ev_pos (by rw [hb, hc]) (ev_pos (by omega) (ev_pos (by omega) (ev_pos (by omega) (ev_pos (by omega) ?_)))))))
      rw [Int.toNat_natCast, Int.toNat_natCast, mkB_extract, wrap_succ (show i < l.length by omega) (by omega)]
      simp only [withH, List.append_nil, List.map_cons]
      exact h
    · rw [if_neg hc, withH_cons, ← take_snoc l st i hs hlt]
      have h := ih (i + 1) st out (by omega) (by omega) (by omega) ho
      refine Ev.step (fun k => rfl) (ev_pos (by omega) (ev_pos (by omega) (ev_neg (by rw [hb]; intro e; exact hc (UInt8.toNat_inj.1 (by omega))) ?_)))
      rw [wrap_succ (show i < l.length by omega) (by omega)]
      exact h
theorem l1Split_ev (x : ByteArray) (c : UInt8) (hx : x.size < 8796093022208) (c' : Int) (hc : c' = (c.toNat : Int)) : Ev (fun k => spec_l1Split.f k x c') ((splitL c x.data.toList).map mkB) := by
  have h := split_go x.data.toList c (by rw [Array.length_toList]; exact hx) x.data.toList.length 0 0 [] (by omega) (by omega) (by omega) (by simp)
  rw [mkB_eta, List.drop_zero, Nat.sub_zero, List.take_zero, withH_nil (splitL_ne c _), List.nil_append] at h
  subst hc
  exact h
theorem splitL_no {c : UInt8} : ∀ {l : List UInt8}, c ∉ l → splitL c l = [l]
  | [], _ => rfl
  | b :: r, h => by
    rw [splitL, if_neg (fun e => h (by rw [← e]; exact List.mem_cons_self ..)), splitL_no (fun m => h (List.mem_cons_of_mem _ m))]
    rfl
theorem splitL_yes {c : UInt8} : ∀ {l : List UInt8} (r : List UInt8), c ∉ l → splitL c (l ++ c :: r) = l :: splitL c r
  | [], r, _ => by rw [List.nil_append, splitL, if_pos rfl]
  | b :: l, r, h => by
    rw [List.cons_append, splitL, if_neg (fun e => h (by rw [← e]; exact List.mem_cons_self ..)), splitL_yes r (fun m => h (List.mem_cons_of_mem _ m))]
    rfl
end Go.Proofs.YtcjloeeomhiblaaDoor.X
set_option linter.unusedVariables false
set_option linter.unusedSimpArgs false
namespace Go.Proofs.YtcjloeeomhiblaaDoor.X
open Go.RowKit Go.Proofs.YtcjloeeomhiblaaDoorW.PrintWords Go.Proofs.YtcjloeeomhiblaaDoor.E
theorem splitL_tail (c : UInt8) : ∀ (r : List (List UInt8)) (x : List UInt8), c ∉ x → (∀ w ∈ r, c ∉ w) → splitL c (x ++ Lib.joinTail [c] r) = x :: r
  | [], x, h, _ => by
    show splitL c (x ++ []) = _
    rw [List.append_nil, splitL_no h]
  | w :: r, x, h, hr => by
    have ih := splitL_tail c r w (hr w (List.mem_cons_self ..)) (fun v hv => hr v (List.mem_cons_of_mem _ hv))
    have e : x ++ Lib.joinTail [c] (w :: r) = x ++ c :: (w ++ Lib.joinTail [c] r) := by simp [Lib.joinTail]
    rw [e, splitL_yes _ h, ih]
theorem splitL_jn (x : ByteArray) (ws : List ByteArray) (h : (32 : UInt8) ∉ x.data.toList) (hw : ∀ w ∈ ws, (32 : UInt8) ∉ w.data.toList) : (splitL 32 (jn x ws).data.toList).map mkB = x :: ws := by
  rw [jn_list, splitL_tail 32 _ _ h (fun w hw' => by obtain ⟨v, hv, rfl⟩ := List.mem_map.1 hw'; exact hw v hv), List.map_cons, mkB_eta, List.map_map]
  congr 1
  exact (List.map_congr_left (g := id) (fun x _ => mkB_eta x)).trans (List.map_id _)
def textL (ls : List (List UInt8)) : List UInt8 := (ls.map (fun l => l ++ [10])).flatten
theorem splitL_text : ∀ ls : List (List UInt8), (∀ l ∈ ls, (10 : UInt8) ∉ l) → splitL 10 (textL ls) = ls ++ [[]]
  | [], _ => rfl
  | l :: ls, h => by
    have ih := splitL_text ls (fun v hv => h v (List.mem_cons_of_mem _ hv))
    have e : textL (l :: ls) = l ++ 10 :: textL ls := by simp [textL]
    rw [e, splitL_yes _ (h l (List.mem_cons_self ..)), ih]
    rfl
theorem textUp_list (form : List Field) : ∀ i, (textUp form i).data.toList = textL ((linesUp form i).map (·.data.toList))
  | 0 => rfl
  | i + 1 => by
    rw [textUp, linesUp, ByteArray.data_append, Array.toList_append, ByteArray.data_append, Array.toList_append, textUp_list form i]
    simp [textL]
theorem linesUp_mem (form : List Field) : ∀ n, ∀ x ∈ linesUp form n, ∃ i, i < n ∧ x = lineB (form.getD i zF)
  | 0, x, h => nomatch h
  | n + 1, x, h => by
    rw [linesUp] at h
    rcases List.mem_append.1 h with h | h
    · obtain ⟨i, hi, e⟩ := linesUp_mem form n x h
      exact ⟨i, by omega, e⟩
    · exact ⟨n, by omega, List.mem_singleton.1 h⟩
theorem jn_no (c : UInt8) (hc : c ≠ 32) (x : ByteArray) (ws : List ByteArray) (h : c ∉ x.data.toList) (hw : ∀ w ∈ ws, c ∉ w.data.toList) : c ∉ (jn x ws).data.toList := by
  rw [jn_list, List.mem_append]
  rintro (m | m)
  · exact h m
  · unfold Lib.joinTail at m
    obtain ⟨l, hl, hm⟩ := List.mem_flatten.1 m
    obtain ⟨v, hv, rfl⟩ := List.mem_map.1 hl
    obtain ⟨w, hw', rfl⟩ := List.mem_map.1 hv
    rcases List.mem_append.1 hm with hm | hm
    · exact hc (List.mem_singleton.1 hm)
    · exact hw w hw' hm
end Go.Proofs.YtcjloeeomhiblaaDoor.X
set_option linter.unusedVariables false
set_option linter.unusedSimpArgs false
namespace Go.Proofs.YtcjloeeomhiblaaDoor.X
open Go.RowKit Go.Proofs.YtcjloeeomhiblaaDoorW.PrintWords Go.Proofs.YtcjloeeomhiblaaDoor.E
theorem ba_inj {a b : ByteArray} (h : a.toList = b.toList) : a = b := by
  rw [Lib.toList_data, Lib.toList_data] at h
  exact ByteArray.ext (Array.toList_inj.1 h)
theorem fidx_at {form : List Field} {n : ByteArray} {j : Nat} (h : fidx form n = (j : Int)) : j < form.length ∧ (form.getD j zF).f0 = n := by
  rcases idxG_spec (fun x : Field => x.f0.toList == n.toList) form 0 with ⟨h1, _⟩ | ⟨j', x, h1, h2, h3, h4, _⟩
  · have : fidx form n = -1 := h1
    omega
  · have e : fidx form n = ((0 + j' : Nat) : Int) := h2
    obtain rfl : j' = j := by omega
    refine ⟨h1, ?_⟩
    rw [List.getD_eq_getElem?_getD, h3, Option.getD_some]
    exact ba_inj (by simpa using h4)
end Go.Proofs.YtcjloeeomhiblaaDoor.X
set_option linter.unusedVariables false
set_option linter.unusedSimpArgs false
namespace Go.Proofs.YtcjloeeomhiblaaDoor.X
open Go.RowKit Go.Proofs.YtcjloeeomhiblaaDoorW.PrintWords Go.Proofs.YtcjloeeomhiblaaDoor.E
/-- No byte below the sign of a number. -/
def Cl (w : ByteArray) : Prop := ∀ b ∈ w.data.toList, 45 ≤ b.toNat
theorem Cl.no {w : ByteArray} (h : Cl w) (c : UInt8) (hc : c.toNat < 45) : c ∉ w.data.toList := fun m => by
  have := h c m
  omega
theorem name_cl {s : ByteArray} (h : nameB s = true) : Cl s := by
  intro b hb
  unfold nameB at h
  rw [Bool.and_eq_true, all_range] at h
  obtain ⟨i, hi, e⟩ := List.getElem_of_mem hb
  have hs : s.data.toList.length = s.size := by rw [Array.length_toList]; rfl
  have ha := h.2 i (by omega)
  have hbt : bt s (i : Int) = (b.toNat : Int) := by
    have := bt_list s.data.toList i hi
    rw [show (⟨s.data.toList.toArray⟩ : ByteArray) = s from mkB_eta s, e] at this
    exact this
  simp only [nameAt, Bool.or_eq_true, Bool.and_eq_true, decide_eq_true_eq, hbt] at ha
  omega
theorem num_cl (n : Int) : Cl (numB n) := by
  intro b hb
  have e : (numB n).data.toList = Lib.itoa n := by unfold numB; simp
  rw [e] at hb
  unfold Lib.itoa at hb
  split at hb
  · rcases List.mem_cons.1 hb with rfl | h
    · decide
    · have := dec_digit _ b h
      omega
  · have := dec_digit _ b hb
    omega
theorem lit_cl {l : List UInt8} (h : l.all (fun b => decide (45 ≤ b.toNat)) = true) : Cl (mkB l) := by
  intro b hb
  rw [mkB_list] at hb
  exact of_decide_eq_true (List.all_eq_true.1 h b hb)
theorem kind_cl (F : Field) (hk : kindOk F = true) : ∀ w ∈ kindW F, Cl w := by
  unfold kindOk at hk
  unfold kindW
  by_cases c1 : F.f1 = 1
  · rw [if_pos c1]
    exact List.forall_mem_cons.2 ⟨lit_cl (l := [110, 117, 109, 98, 101, 114]) (by decide), List.forall_mem_cons.2 ⟨num_cl _, List.forall_mem_cons.2 ⟨num_cl _, fun _ h => nomatch h⟩⟩⟩
  rw [if_neg c1] at hk ⊢
  by_cases c2 : F.f1 = 2
  · rw [if_pos c2]
    exact List.forall_mem_cons.2 ⟨lit_cl (l := [116, 101, 120, 116]) (by decide), List.forall_mem_cons.2 ⟨num_cl _, List.forall_mem_cons.2 ⟨num_cl _, fun _ h => nomatch h⟩⟩⟩
  rw [if_neg c2] at hk ⊢
  by_cases c3 : F.f1 = 3
  · rw [if_pos c3] at hk ⊢
    rw [Bool.and_eq_true] at hk
    have hc := hk.2
    unfold choices at hc
    rw [all_range] at hc
    refine List.forall_mem_cons.2 ⟨lit_cl (l := [99, 104, 111, 105, 99, 101]) (by decide), fun w hw => ?_⟩
    obtain ⟨i, hi, e⟩ := List.getElem_of_mem hw
    have := hc i hi
    unfold choiceAt at this
    rw [Bool.and_eq_true, getD_in hi, e] at this
    exact name_cl this.1
  rw [if_neg c3]
  exact List.forall_mem_cons.2 ⟨lit_cl (l := [102, 108, 97, 103]) (by decide), fun _ h => nomatch h⟩
theorem need_cl (b : Bool) : ∀ w ∈ needW b, Cl w := by
  unfold needW
  split
  · exact List.forall_mem_cons.2 ⟨lit_cl (l := [110, 101, 101, 100, 101, 100]) (by decide), fun _ h => nomatch h⟩
  · exact fun _ h => nomatch h
theorem if_cl (s : ByteArray) (h : s.toList = ([] : List UInt8) ∨ nameB s = true) : ∀ w ∈ ifW s, Cl w := by
  unfold ifW
  split
  · exact fun _ h => nomatch h
  · rename_i hn
    exact List.forall_mem_cons.2 ⟨lit_cl (l := [105, 102]) (by decide), List.forall_mem_cons.2 ⟨name_cl (h.resolve_left hn), fun _ h => nomatch h⟩⟩
/-- A valid form's fields have clean words. -/
theorem field_cl {form : List Field} (h : formB form = true) {i : Nat} (hi : i < form.length) : Cl (form.getD i zF).f0 ∧ ∀ w ∈ kindW (form.getD i zF) ++ (needW (form.getD i zF).f5 ++ ifW (form.getD i zF).f6), Cl w := by
  unfold formB at h
  rw [Bool.and_eq_true, all_range] at h
  have hf := h.2
  have hb := hf i hi
  unfold fieldB at hb
  simp only [Bool.and_eq_true] at hb
  refine ⟨name_cl hb.1.1.1.1, ?_⟩
  have h6 : (form.getD i zF).f6.toList = ([] : List UInt8) ∨ nameB (form.getD i zF).f6 = true := by
    have := hb.1.2
    unfold ifOk at this
    simp only [Bool.or_eq_true, Bool.and_eq_true, decide_eq_true_eq, beq_iff_eq] at this
    rcases this with e | ⟨⟨h0, h1⟩, _⟩
    · exact .inl e
    · obtain ⟨j, hj⟩ : ∃ j : Nat, fidx form (form.getD i zF).f6 = (j : Int) := ⟨(fidx form (form.getD i zF).f6).toNat, by omega⟩
      obtain ⟨hjl, e⟩ := fidx_at hj
      have hbj := hf j hjl
      unfold fieldB at hbj
      simp only [Bool.and_eq_true] at hbj
      rw [e] at hbj
      exact .inr hbj.1.1.1.1
  intro w hw
  rcases List.mem_append.1 hw with m | m
  · exact kind_cl _ hb.2 w m
  · rcases List.mem_append.1 m with m | m
    · exact need_cl _ w m
    · exact if_cl _ h6 w m
theorem line_words {form : List Field} (h : formB form = true) {i : Nat} (hi : i < form.length) : (splitL 32 (lineB (form.getD i zF)).data.toList).map mkB = (form.getD i zF).f0 :: (kindW (form.getD i zF) ++ (needW (form.getD i zF).f5 ++ ifW (form.getD i zF).f6)) := by
  obtain ⟨h0, hw⟩ := field_cl h hi
  exact splitL_jn _ _ (h0.no 32 (by decide)) (fun w m => (hw w m).no 32 (by decide))
theorem text_lines {form : List Field} (h : formB form = true) : (splitL 10 (textUp form form.length).data.toList).map mkB = linesUp form form.length ++ [mkB []] := by
  rw [textUp_list, splitL_text, List.map_append, List.map_map]
  · congr 1
    exact (List.map_congr_left (g := id) (fun x _ => mkB_eta x)).trans (List.map_id _)
  · intro l hl
    obtain ⟨x, hx, rfl⟩ := List.mem_map.1 hl
    obtain ⟨i, hi, rfl⟩ := linesUp_mem form _ x hx
    obtain ⟨h0, hw⟩ := field_cl h hi
    exact jn_no 10 (by decide) _ _ (h0.no 10 (by decide)) (fun w m => (hw w m).no 10 (by decide))
end Go.Proofs.YtcjloeeomhiblaaDoor.X
set_option linter.unusedVariables false
set_option linter.unusedSimpArgs false
namespace Go.Proofs.YtcjloeeomhiblaaDoor.X
open Go.RowKit Go.Proofs.YtcjloeeomhiblaaDoorW.PrintWords Go.Proofs.YtcjloeeomhiblaaDoor.E
abbrev e0 : ByteArray := ⟨#[]⟩
theorem tN : (⟨#[110, 101, 101, 100, 101, 100]⟩ : ByteArray).toList = [110, 101, 101, 100, 101, 100] := by rw [Lib.toList_data]
theorem tI : (⟨#[105, 102]⟩ : ByteArray).toList = [105, 102] := by rw [Lib.toList_data]
theorem tU : (⟨#[110, 117, 109, 98, 101, 114]⟩ : ByteArray).toList = [110, 117, 109, 98, 101, 114] := by rw [Lib.toList_data]
theorem tT : (⟨#[116, 101, 120, 116]⟩ : ByteArray).toList = [116, 101, 120, 116] := by rw [Lib.toList_data]
theorem tC : (⟨#[99, 104, 111, 105, 99, 101]⟩ : ByteArray).toList = [99, 104, 111, 105, 99, 101] := by rw [Lib.toList_data]
theorem tG : (⟨#[102, 108, 97, 103]⟩ : ByteArray).toList = [102, 108, 97, 103] := by rw [Lib.toList_data]
theorem t0 : e0.toList = [] := by rw [Lib.toList_data]
theorem neL {x : ByteArray} {l m : List UInt8} (h : x.toList = l) (d : l ≠ m) : ¬ x.toList = m := fun e => d (h.symm.trans e)
theorem beL {x : ByteArray} {l : List UInt8} (h : x.toList = l) : (x.toList == l) = true := by rw [h]; exact beq_self_eq_true l
theorem nbL {x : ByteArray} {l m : List UInt8} (h : x.toList = l) (d : l ≠ m) : ¬ (x.toList == m) = true := by rw [h]; simpa using d
theorem rd_at (ws : List ByteArray) (at_ i : Nat) : rdOf ByteArray.empty ws ((at_ + i : Nat) : Int) = (ws.drop at_).getD i ByteArray.empty := by
  unfold rdOf
  rw [Int.toNat_natCast, List.getD_eq_getElem?_getD, List.getD_eq_getElem?_getD, List.getElem?_drop]
theorem specParse_ev (s : ByteArray) : Ev (fun k => spec_ParseInt.f k s) (parseE s) := Ev.bind (l1Read_ev s) (ev_now rfl)
theorem specTail (ws : List ByteArray) (at_ : Nat) (nd : Bool) (f : ByteArray) (hd : ws.drop at_ = needW nd ++ ifW f) (hat : at_ ≤ ws.length) (hl : ws.length ≤ 5000) (n : ByteArray) (c l m : Int) (cs : List ByteArray) :
    Ev (fun k => spec_l23ReadField.j3 k ws (at_ : Int) n c l m cs false e0) (n, c, l, m, cs, nd, f, true) := by
  have hlen : ws.length = at_ + (needW nd ++ ifW f).length := by rw [← hd, List.length_drop]; omega
  have hw1 : wrap64 ((at_ : Int) + 1) = (at_ : Int) + 1 := wrap_id (by omega) (by omega)
  have hw2 : wrap64 ((at_ : Int) + 1 + 1) = (at_ : Int) + 2 := by rw [wrap_id (by omega) (by omega)]; omega
  have hw3 : wrap64 ((at_ : Int) + 1 + 2) = (at_ : Int) + 3 := by rw [wrap_id (by omega) (by omega)]; omega
  have hw4 : wrap64 ((at_ : Int) + 2) = (at_ : Int) + 2 := wrap_id (by omega) (by omega)
  have r0 := rd_at ws at_ 0
  have r1 := rd_at ws at_ 1
  have r2 := rd_at ws at_ 2
  rw [hd] at r0 r1 r2
  rw [show ((at_ + 0 : Nat) : Int) = (at_ : Int) by omega] at r0
  rw [show ((at_ + 1 : Nat) : Int) = (at_ : Int) + 1 by omega] at r1
  rw [show ((at_ + 2 : Nat) : Int) = (at_ : Int) + 2 by omega] at r2
  by_cases e : f.toList = ([] : List UInt8)
  · obtain rfl : f = e0 := ba_inj (e.trans t0.symm)
    have hi : ifW e0 = [] := by unfold ifW; rw [if_pos e]
    rw [hi, List.append_nil] at hlen r0 r1 r2
    cases nd
    · have hlen' : ws.length = at_ := hlen
      have hj : ∀ x : Bool, x = false → Ev (fun k => spec_l23ReadField.j4 k ws (at_ : Int) x n c l m cs false e0) (n, c, l, m, cs, false, e0, true) := by
        intro x hx
        refine Ev.step (fun k => rfl) (ev_neg (by rw [hx]; simp) (ev_neg (by rw [hw1]; omega) (ev_now ?_)))
        rw [hlen', beq_self_eq_true]
      exact Ev.step (fun k => rfl) (ev_neg (by omega) (hj false rfl))
    · have hlen' : ws.length = at_ + 1 := hlen
      have r0' : rdOf ByteArray.empty ws (at_ : Int) = ⟨#[110, 101, 101, 100, 101, 100]⟩ := r0
      refine Ev.step (fun k => rfl) (ev_pos (by omega) (ev_pos (by omega) (Ev.step (fun k => rfl) (ev_pos (by rw [r0']; exact beL tN) ?_))))
      simp only [hw1, hw2]
      refine ev_neg (by omega) (ev_now ?_)
      rw [hlen', show ((at_ + 1 : Nat) : Int) = (at_ : Int) + 1 by omega, beq_self_eq_true]
  · have hi : ifW f = [⟨#[105, 102]⟩, f] := by unfold ifW; rw [if_neg e]
    rw [hi] at hlen r0 r1 r2
    cases nd
    · have hlen' : ws.length = at_ + 2 := hlen
      have r0' : rdOf ByteArray.empty ws (at_ : Int) = ⟨#[105, 102]⟩ := r0
      have r1' : rdOf ByteArray.empty ws ((at_ : Int) + 1) = f := r1
      refine Ev.step (fun k => rfl) (ev_pos (by omega) (ev_pos (by omega) (Ev.step (fun k => rfl) (ev_neg (by rw [r0']; exact nbL tI (by decide)) ?_))))
      simp only [hw1, hw4]
      refine ev_pos (by omega) (ev_pos (by omega) (ev_pos (by omega) (ev_pos (by rw [r0']; exact tI) (ev_pos (by omega) (ev_now ?_)))))
      rw [r1', hlen', show ((at_ + 2 : Nat) : Int) = (at_ : Int) + 2 by omega, beq_self_eq_true]
    · have hlen' : ws.length = at_ + 3 := hlen
      have r0' : rdOf ByteArray.empty ws (at_ : Int) = ⟨#[110, 101, 101, 100, 101, 100]⟩ := r0
      have r1' : rdOf ByteArray.empty ws ((at_ : Int) + 1) = ⟨#[105, 102]⟩ := r1
      have r2' : rdOf ByteArray.empty ws ((at_ : Int) + 2) = f := r2
      refine Ev.step (fun k => rfl) (ev_pos (by omega) (ev_pos (by omega) (Ev.step (fun k => rfl) (ev_pos (by rw [r0']; exact beL tN) ?_))))
      simp only [hw1, hw2, hw3]
      refine ev_pos (by omega) (ev_pos (by omega) (ev_pos (by omega) (ev_pos (by rw [r1']; exact tI) (ev_pos (by omega) (ev_now ?_)))))
      rw [r2', hlen', show ((at_ + 3 : Nat) : Int) = (at_ : Int) + 3 by omega, beq_self_eq_true]
theorem implTail (R : List ByteArray) (nd : Bool) (f : ByteArray) (hR : R = needW nd ++ ifW f) (n : ByteArray) (c l m : Int) (cs : List ByteArray) :
    Ev (fun k => impl_fieldOfWords.j3 k R n c l m cs false e0) (n, c, l, m, cs, nd, f, true) := by
  have hlen := congrArg List.length hR
  have hd1 : (R.drop 1).length = R.length - 1 := List.length_drop
  by_cases e : f.toList = ([] : List UInt8)
  · obtain rfl : f = e0 := ba_inj (e.trans t0.symm)
    have hi : ifW e0 = [] := by unfold ifW; rw [if_pos e]
    rw [hi, List.append_nil] at hlen hR
    cases nd
    · have hlen' : R.length = 0 := hlen
      have hj : ∀ x : Bool, x = false → Ev (fun k => impl_fieldOfWords.j4 k R x n c l m cs false e0) (n, c, l, m, cs, false, e0, true) := fun x hx =>
        Ev.step (fun k => rfl) (ev_neg (by rw [hx]; simp) (ev_neg (by omega) (ev_now rfl)))
      exact Ev.step (fun k => rfl) (ev_neg (by omega) (hj false rfl))
    · have hlen' : R.length = 1 := hlen
      have r0 : rdOf ByteArray.empty R 0 = ⟨#[110, 101, 101, 100, 101, 100]⟩ := by rw [hR]; rfl
      exact Ev.step (fun k => rfl) (ev_pos (by omega) (ev_pos (by omega) (Ev.step (fun k => rfl) (ev_pos (by rw [r0]; exact beL tN) (ev_pos (by omega) (ev_some (ev_neg (by omega) (ev_now rfl))))))))
  · have hi : ifW f = [⟨#[105, 102]⟩, f] := by unfold ifW; rw [if_neg e]
    rw [hi] at hlen hR
    cases nd
    · have hlen' : R.length = 2 := hlen
      have r0 : rdOf ByteArray.empty R 0 = ⟨#[105, 102]⟩ := by rw [hR]; rfl
      have r1 : rdOf ByteArray.empty R 1 = f := by rw [hR]; rfl
      refine Ev.step (fun k => rfl) (ev_pos (by omega) (ev_pos (by omega) (Ev.step (fun k => rfl) (ev_neg (by rw [r0]; exact nbL tI (by decide)) (ev_pos (by omega) (ev_pos (by omega) (ev_now ?_)))))))
      rw [r1]
    · have hlen' : R.length = 3 := hlen
      have r0 : rdOf ByteArray.empty R 0 = ⟨#[110, 101, 101, 100, 101, 100]⟩ := by rw [hR]; rfl
      have r1 : rdOf ByteArray.empty (R.drop 1) 1 = f := by rw [hR]; rfl
      refine Ev.step (fun k => rfl) (ev_pos (by omega) (ev_pos (by omega) (Ev.step (fun k => rfl) (ev_pos (by rw [r0]; exact beL tN) (ev_pos (by omega) (ev_some (ev_pos (by omega) (ev_pos (by omega) (ev_now ?_)))))))))
      rw [r1]
def plain (w : ByteArray) : Prop := ¬ w.toList = ([110, 101, 101, 100, 101, 100] : List UInt8) ∧ ¬ w.toList = ([105, 102] : List UInt8)
theorem specChoice (ws : List ByteArray) (nd : Bool) (f : ByteArray) (hl : ws.length ≤ 5000) (n : ByteArray) (c l m : Int) : ∀ (rem done : List ByteArray) (at_ : Nat), (∀ w ∈ rem, plain w) → ws.drop at_ = rem ++ (needW nd ++ ifW f) → at_ ≤ ws.length → done.length ≤ at_ →
    Ev (fun k => spec_l23ReadField.l0 k ws (at_ : Int) n c l m done false e0) (n, c, l, m, done ++ rem, nd, f, true) := by
  intro rem
  induction rem with
  | nil =>
    intro done at_ hp hd hat hdn
    rw [List.nil_append] at hd
    rw [List.append_nil]
    have ht := specTail ws at_ nd f hd hat hl n c l m done
    have hlen : ws.length = at_ + (needW nd ++ ifW f).length := by rw [← hd, List.length_drop]; omega
    have r0 := rd_at ws at_ 0
    rw [hd, show ((at_ + 0 : Nat) : Int) = (at_ : Int) by omega] at r0
    by_cases e : ws.length = at_
    · exact Ev.step (fun k => rfl) (ev_neg (by omega) ht)
    · refine Ev.step (fun k => rfl) (ev_pos (by omega) (ev_pos (by omega) ?_))
      cases nd
      · by_cases d : f.toList = ([] : List UInt8)
        · have hi : ifW f = [] := by unfold ifW; rw [if_pos d]
          rw [hi] at hlen
          exact absurd hlen e
        · have hi : ifW f = [⟨#[105, 102]⟩, f] := by unfold ifW; rw [if_neg d]
          rw [hi] at r0
          have r0' : rdOf ByteArray.empty ws (at_ : Int) = ⟨#[105, 102]⟩ := r0
          exact ev_neg (by rw [r0']; exact neL tI (by decide)) (ev_pos (by rw [r0']; exact tI) ht)
      · have r0' : rdOf ByteArray.empty ws (at_ : Int) = ⟨#[110, 101, 101, 100, 101, 100]⟩ := r0
        exact ev_pos (by rw [r0']; exact tN) ht
  | cons w rem ih =>
    intro done at_ hp hd hat hdn
    have hlt : at_ < ws.length := by
      have := congrArg List.length hd
      rw [List.length_drop, List.cons_append, List.length_cons] at this
      omega
    have r0 := rd_at ws at_ 0
    rw [hd, show ((at_ + 0 : Nat) : Int) = (at_ : Int) by omega] at r0
    have r0' : rdOf ByteArray.empty ws (at_ : Int) = w := r0
    have hw := hp w List.mem_cons_self
    have hd2 : ws.drop (at_ + 1) = rem ++ (needW nd ++ ifW f) := by
      rw [← List.drop_drop, hd]
      rfl
    have h := ih (done ++ [w]) (at_ + 1) (fun x hx => hp x (List.mem_cons_of_mem _ hx)) hd2 (by omega) (by rw [List.length_append, List.length_singleton]; omega)
    rw [List.append_assoc] at h
    refine Ev.step (fun k => rfl) (ev_pos (by omega) (ev_pos (by omega) (ev_neg (by rw [r0']; exact hw.1) (ev_neg (by rw [r0']; exact hw.2) (ev_pos (by omega) ?_)))))
    rw [r0', wrap_succ hlt (by omega)]
    exact h
theorem implChoice (nd : Bool) (f : ByteArray) (n : ByteArray) (c l m : Int) : ∀ (rem done R : List ByteArray), (∀ w ∈ rem, plain w) → rem.length + done.length ≤ 5000 → R = rem ++ (needW nd ++ ifW f) →
    Ev (fun k => impl_fieldOfWords.l0 k R n c l m done false e0) (n, c, l, m, done ++ rem, nd, f, true) := by
  intro rem
  induction rem with
  | nil =>
    intro done R hp hdn hR
    rw [List.nil_append] at hR
    rw [List.append_nil]
    have ht := implTail R nd f hR n c l m done
    have hlen := congrArg List.length hR
    by_cases d : f.toList = ([] : List UInt8)
    · have hi : ifW f = [] := by unfold ifW; rw [if_pos d]
      rw [hi, List.append_nil] at hlen hR
      cases nd
      · have hlen' : R.length = 0 := hlen
        exact Ev.step (fun k => rfl) (ev_neg (by omega) ht)
      · have hlen' : R.length = 1 := hlen
        have r0 : rdOf ByteArray.empty R 0 = ⟨#[110, 101, 101, 100, 101, 100]⟩ := by rw [hR]; rfl
        exact Ev.step (fun k => rfl) (ev_pos (by omega) (ev_pos (by omega) (ev_pos (by rw [r0]; exact tN) ht)))
    · have hi : ifW f = [⟨#[105, 102]⟩, f] := by unfold ifW; rw [if_neg d]
      rw [hi] at hlen hR
      cases nd
      · have hlen' : R.length = 2 := hlen
        have r0 : rdOf ByteArray.empty R 0 = ⟨#[105, 102]⟩ := by rw [hR]; rfl
        exact Ev.step (fun k => rfl) (ev_pos (by omega) (ev_pos (by omega) (ev_neg (by rw [r0]; exact neL tI (by decide)) (ev_pos (by rw [r0]; exact tI) ht))))
      · have hlen' : R.length = 3 := hlen
        have r0 : rdOf ByteArray.empty R 0 = ⟨#[110, 101, 101, 100, 101, 100]⟩ := by rw [hR]; rfl
        exact Ev.step (fun k => rfl) (ev_pos (by omega) (ev_pos (by omega) (ev_pos (by rw [r0]; exact tN) ht)))
  | cons w rem ih =>
    intro done R hp hdn hR
    rw [List.length_cons] at hdn
    have hlen := congrArg List.length hR
    rw [List.cons_append, List.length_cons] at hlen
    have r0 : rdOf ByteArray.empty R 0 = w := by rw [hR]; rfl
    have hw := hp w List.mem_cons_self
    have h := ih (done ++ [w]) (R.drop 1) (fun x hx => hp x (List.mem_cons_of_mem _ hx)) (by rw [List.length_append, List.length_singleton]; omega) (by rw [hR]; rfl)
    rw [List.append_assoc] at h
    refine Ev.step (fun k => rfl) (ev_pos (by omega) (ev_pos (by omega) (ev_neg (by rw [r0]; exact hw.1) (ev_neg (by rw [r0]; exact hw.2) (ev_pos (by omega) (ev_pos (by omega) ?_))))))
    rw [r0]
    exact h
theorem plain_of {F : Field} (h : badF F = false) : ∀ w ∈ F.f4, plain w := by
  unfold badF at h
  rw [Bool.or_eq_false_iff, List.any_eq_false, List.any_eq_false] at h
  intro w hw
  have h1 := h.1 w hw
  have h2 := h.2 w hw
  unfold isN at h1
  unfold isI at h2
  exact ⟨by simpa using h1, by simpa using h2⟩
def tupF (F : Field) (b : Bool) : ByteArray × Int × Int × Int × List ByteArray × Bool × ByteArray × Bool := (F.f0, F.f1, F.f2, F.f3, F.f4, F.f5, F.f6, b)
theorem kind_cases {F : Field} (hk : kindOk F = true) : ((F.f1 = 1 ∨ F.f1 = 2) ∧ (-999999 ≤ F.f2 ∧ F.f2 ≤ 999999) ∧ (-999999 ≤ F.f3 ∧ F.f3 ≤ 999999) ∧ F.f4 = []) ∨ (F.f1 = 3 ∧ F.f2 = 0 ∧ F.f3 = 0 ∧ F.f4.length ≤ 6) ∨ (F.f1 = 4 ∧ F.f2 = 0 ∧ F.f3 = 0 ∧ F.f4 = []) := by
  unfold kindOk at hk
  split at hk
  · rename_i h1
    rw [Bool.and_eq_true, decide_eq_true_eq, beq_iff_eq] at hk
    exact .inl ⟨.inl h1, by omega, by omega, List.eq_nil_of_length_eq_zero hk.2⟩
  · split at hk
    · rename_i h1
      rw [Bool.and_eq_true, decide_eq_true_eq, beq_iff_eq] at hk
      exact .inl ⟨.inr h1, by omega, by omega, List.eq_nil_of_length_eq_zero hk.2⟩
    · split at hk
      · rename_i h1
        rw [Bool.and_eq_true, Bool.and_eq_true, decide_eq_true_eq, decide_eq_true_eq] at hk
        exact .inr (.inl ⟨h1, hk.1.1.1, hk.1.1.2, by omega⟩)
      · split at hk
        · rename_i h1
          rw [Bool.and_eq_true, decide_eq_true_eq, beq_iff_eq] at hk
          exact .inr (.inr ⟨h1, hk.1.1, hk.1.2, List.eq_nil_of_length_eq_zero hk.2⟩)
        · cases hk
theorem tail_len (nd : Bool) (f : ByteArray) : (needW nd ++ ifW f).length ≤ 3 := by
  unfold needW ifW
  rw [List.length_append]
  split <;> split <;> simp
theorem specOwn (F : Field) (hk : kindOk F = true) (hb : badF F = false) (ws : List ByteArray) (hws : ws = F.f0 :: (kindW F ++ (needW F.f5 ++ ifW F.f6))) : Ev (fun k => spec_l23ReadField.f k ws) (tupF F true) := by
  have htl := tail_len F.f5 F.f6
  have r0 : rdOf ByteArray.empty ws 0 = F.f0 := by rw [hws]; rfl
  have hlen := congrArg List.length hws
  rw [List.length_cons, List.length_append] at hlen
  unfold tupF spec_l23ReadField.f
  rcases kind_cases hk with ⟨hc, h2, h3, h4⟩ | ⟨hc, h2, h3, h4⟩ | ⟨hc, h2, h3, h4⟩
  · have p1 := specParse_ev (numB F.f2)
    have p2 := specParse_ev (numB F.f3)
    rw [parse_num h2.1 h2.2] at p1
    rw [parse_num h3.1 h3.2] at p2
    rcases hc with hc | hc
    · have hw : kindW F = [⟨#[110, 117, 109, 98, 101, 114]⟩, numB F.f2, numB F.f3] := by unfold kindW; rw [if_pos hc]
      rw [hw] at hws hlen
      have hlen' : ws.length = 4 + (needW F.f5 ++ ifW F.f6).length := by rw [hlen]; simp only [List.length_cons, List.length_nil]; omega
      have r1 : rdOf ByteArray.empty ws 1 = ⟨#[110, 117, 109, 98, 101, 114]⟩ := by rw [hws]; rfl
      have r2 : rdOf ByteArray.empty ws 2 = numB F.f2 := by rw [hws]; rfl
      have r3 : rdOf ByteArray.empty ws 3 = numB F.f3 := by rw [hws]; rfl
      have ht := specTail ws 4 F.f5 F.f6 (by rw [hws]; rfl) (by omega) (by omega) F.f0 1 F.f2 F.f3 []
      rw [hc, h4]
      refine ev_neg (by omega) (ev_pos (by omega) (ev_pos (by omega) (ev_pos (by rw [r1]; exact tU) ?_)))
      rw [r1, r0]
      have hj : ∀ x : Bool, x = true → Ev (fun k => spec_l23ReadField.j0 k ws 2 (⟨#[110, 117, 109, 98, 101, 114]⟩ : ByteArray) x F.f0 0 0 0 false e0) (F.f0, 1, F.f2, F.f3, [], F.f5, F.f6, true) := by
        intro x hx
        refine Ev.step (fun k => rfl) (ev_pos hx (ev_pos (by omega) (ev_neg (by rw [r1]; exact neL tU (by decide)) ?_)))
        exact Ev.step (fun k => rfl) (ev_neg (by omega) (ev_pos (by omega) (Ev.bind (by rw [r2]; exact p1) (ev_pos (by omega) (Ev.bind (by rw [r3]; exact p2) (ev_pos rfl (ev_pos rfl ht)))))))
      exact hj _ (beL tU)
    · have hw : kindW F = [⟨#[116, 101, 120, 116]⟩, numB F.f2, numB F.f3] := by unfold kindW; rw [if_neg (by omega), if_pos hc]
      rw [hw] at hws hlen
      have hlen' : ws.length = 4 + (needW F.f5 ++ ifW F.f6).length := by rw [hlen]; simp only [List.length_cons, List.length_nil]; omega
      have r1 : rdOf ByteArray.empty ws 1 = ⟨#[116, 101, 120, 116]⟩ := by rw [hws]; rfl
      have r2 : rdOf ByteArray.empty ws 2 = numB F.f2 := by rw [hws]; rfl
      have r3 : rdOf ByteArray.empty ws 3 = numB F.f3 := by rw [hws]; rfl
      have ht := specTail ws 4 F.f5 F.f6 (by rw [hws]; rfl) (by omega) (by omega) F.f0 2 F.f2 F.f3 []
      rw [hc, h4]
      refine ev_neg (by omega) (ev_pos (by omega) (ev_pos (by omega) (ev_neg (by rw [r1]; exact neL tT (by decide)) ?_)))
      rw [r1, r0]
      have hj : ∀ x : Bool, x = true → Ev (fun k => spec_l23ReadField.j0 k ws 2 (⟨#[116, 101, 120, 116]⟩ : ByteArray) x F.f0 0 0 0 false e0) (F.f0, 2, F.f2, F.f3, [], F.f5, F.f6, true) := by
        intro x hx
        refine Ev.step (fun k => rfl) (ev_pos hx (ev_pos (by omega) (ev_pos (by rw [r1]; exact tT) ?_)))
        exact Ev.step (fun k => rfl) (ev_neg (by omega) (ev_pos (by omega) (Ev.bind (by rw [r2]; exact p1) (ev_pos (by omega) (Ev.bind (by rw [r3]; exact p2) (ev_pos rfl (ev_pos rfl ht)))))))
      exact hj _ (beL tT)
  · have hw : kindW F = ⟨#[99, 104, 111, 105, 99, 101]⟩ :: F.f4 := by unfold kindW; rw [if_neg (by omega), if_neg (by omega), if_pos hc]
    rw [hw] at hws hlen
    rw [List.length_cons] at hlen
    have r1 : rdOf ByteArray.empty ws 1 = ⟨#[99, 104, 111, 105, 99, 101]⟩ := by rw [hws]; rfl
    have ht := specChoice ws F.f5 F.f6 (by omega) F.f0 3 0 0 F.f4 [] 2 (plain_of hb) (by rw [hws]; rfl) (by omega) (by simp)
    rw [hc, h2, h3]
    refine ev_neg (by omega) (ev_pos (by omega) (ev_pos (by omega) (ev_neg (by rw [r1]; exact neL tC (by decide)) ?_)))
    rw [r1, r0]
    have hj : ∀ x : Bool, ¬ x = true → Ev (fun k => spec_l23ReadField.j0 k ws 2 (⟨#[99, 104, 111, 105, 99, 101]⟩ : ByteArray) x F.f0 0 0 0 false e0) (F.f0, 3, 0, 0, F.f4, F.f5, F.f6, true) := fun x hx =>
      Ev.step (fun k => rfl) (ev_neg hx (ev_pos tC ht))
    exact hj _ (nbL tC (by decide))
  · have hw : kindW F = [⟨#[102, 108, 97, 103]⟩] := by unfold kindW; rw [if_neg (by omega), if_neg (by omega), if_neg (by omega)]
    rw [hw] at hws hlen
    have hlen' : ws.length = 2 + (needW F.f5 ++ ifW F.f6).length := by rw [hlen]; simp only [List.length_cons, List.length_nil]; omega
    have r1 : rdOf ByteArray.empty ws 1 = ⟨#[102, 108, 97, 103]⟩ := by rw [hws]; rfl
    have ht := specTail ws 2 F.f5 F.f6 (by rw [hws]; rfl) (by omega) (by omega) F.f0 4 0 0 []
    rw [hc, h2, h3, h4]
    refine ev_neg (by omega) (ev_pos (by omega) (ev_pos (by omega) (ev_neg (by rw [r1]; exact neL tG (by decide)) ?_)))
    rw [r1, r0]
    have hj : ∀ x : Bool, ¬ x = true → Ev (fun k => spec_l23ReadField.j0 k ws 2 (⟨#[102, 108, 97, 103]⟩ : ByteArray) x F.f0 0 0 0 false e0) (F.f0, 4, 0, 0, [], F.f5, F.f6, true) := fun x hx =>
      Ev.step (fun k => rfl) (ev_neg hx (ev_neg (neL tG (by decide)) (ev_pos tG ht)))
    exact hj _ (nbL tG (by decide))
theorem implOwn (F : Field) (hk : kindOk F = true) (hb : badF F = false) (ws : List ByteArray) (hws : ws = F.f0 :: (kindW F ++ (needW F.f5 ++ ifW F.f6))) : Ev (fun k => impl_fieldOfWords.f k ws) (tupF F true) := by
  have htl := tail_len F.f5 F.f6
  have r0 : rdOf ByteArray.empty ws 0 = F.f0 := by rw [hws]; rfl
  have hlen := congrArg List.length hws
  rw [List.length_cons, List.length_append] at hlen
  have hdl : (ws.drop 2).length = ws.length - 2 := List.length_drop
  unfold tupF impl_fieldOfWords.f
  rcases kind_cases hk with ⟨hc, h2, h3, h4⟩ | ⟨hc, h2, h3, h4⟩ | ⟨hc, h2, h3, h4⟩
  · have p1 : impl_ParseInt.f (numB F.f2) = some (F.f2, true) := by rw [parseInt_eq _ (Nat.le_trans (numB_small _ h2.1 h2.2) (by decide)), parse_num h2.1 h2.2]
    have p2 : impl_ParseInt.f (numB F.f3) = some (F.f3, true) := by rw [parseInt_eq _ (Nat.le_trans (numB_small _ h3.1 h3.2) (by decide)), parse_num h3.1 h3.2]
    rcases hc with hc | hc
    · have hw : kindW F = [⟨#[110, 117, 109, 98, 101, 114]⟩, numB F.f2, numB F.f3] := by unfold kindW; rw [if_pos hc]
      rw [hw] at hws hlen
      have hlen' : ws.length = 4 + (needW F.f5 ++ ifW F.f6).length := by rw [hlen]; simp only [List.length_cons, List.length_nil]; omega
      have r1 : rdOf ByteArray.empty ws 1 = ⟨#[110, 117, 109, 98, 101, 114]⟩ := by rw [hws]; rfl
      have r2 : rdOf ByteArray.empty (ws.drop 2) 0 = numB F.f2 := by rw [hws]; rfl
      have r3 : rdOf ByteArray.empty (ws.drop 2) 1 = numB F.f3 := by rw [hws]; rfl
      have ht := implTail ((ws.drop 2).drop 2) F.f5 F.f6 (by rw [hws]; rfl) F.f0 1 F.f2 F.f3 []
      rw [hc, h4]
      refine ev_neg (by omega) (ev_pos (by omega) (ev_pos (by omega) (ev_pos (by omega) (ev_some (ev_pos (by rw [r1]; exact tU) ?_)))))
      rw [r1, r0]
      have hj : ∀ x : Bool, x = true → Ev (fun k => impl_fieldOfWords.j0 k (⟨#[110, 117, 109, 98, 101, 114]⟩ : ByteArray) (ws.drop 2) (⟨#[110, 117, 109, 98, 101, 114]⟩ : ByteArray) x F.f0 0 0 0 false e0) (F.f0, 1, F.f2, F.f3, [], F.f5, F.f6, true) := by
        intro x hx
        refine Ev.step (fun k => rfl) (ev_pos hx (ev_neg (neL tU (by decide)) ?_))
        exact Ev.step (fun k => rfl) (ev_neg (by omega) (ev_pos (by omega) (ev_bind0 (by rw [r2]; exact p1) (ev_pos (by omega) (ev_bind0 (by rw [r3]; exact p2) (ev_pos (by omega) ht))))))
      exact hj _ (beL tU)
    · have hw : kindW F = [⟨#[116, 101, 120, 116]⟩, numB F.f2, numB F.f3] := by unfold kindW; rw [if_neg (by omega), if_pos hc]
      rw [hw] at hws hlen
      have hlen' : ws.length = 4 + (needW F.f5 ++ ifW F.f6).length := by rw [hlen]; simp only [List.length_cons, List.length_nil]; omega
      have r1 : rdOf ByteArray.empty ws 1 = ⟨#[116, 101, 120, 116]⟩ := by rw [hws]; rfl
      have r2 : rdOf ByteArray.empty (ws.drop 2) 0 = numB F.f2 := by rw [hws]; rfl
      have r3 : rdOf ByteArray.empty (ws.drop 2) 1 = numB F.f3 := by rw [hws]; rfl
      have ht := implTail ((ws.drop 2).drop 2) F.f5 F.f6 (by rw [hws]; rfl) F.f0 2 F.f2 F.f3 []
      rw [hc, h4]
      refine ev_neg (by omega) (ev_pos (by omega) (ev_pos (by omega) (ev_pos (by omega) (ev_some (ev_neg (by rw [r1]; exact neL tT (by decide)) ?_)))))
      rw [r1, r0]
      have hj : ∀ x : Bool, x = true → Ev (fun k => impl_fieldOfWords.j0 k (⟨#[116, 101, 120, 116]⟩ : ByteArray) (ws.drop 2) (⟨#[116, 101, 120, 116]⟩ : ByteArray) x F.f0 0 0 0 false e0) (F.f0, 2, F.f2, F.f3, [], F.f5, F.f6, true) := by
        intro x hx
        refine Ev.step (fun k => rfl) (ev_pos hx (ev_pos tT ?_))
        exact Ev.step (fun k => rfl) (ev_neg (by omega) (ev_pos (by omega) (ev_bind0 (by rw [r2]; exact p1) (ev_pos (by omega) (ev_bind0 (by rw [r3]; exact p2) (ev_pos (by omega) ht))))))
      exact hj _ (beL tT)
  · have hw : kindW F = ⟨#[99, 104, 111, 105, 99, 101]⟩ :: F.f4 := by unfold kindW; rw [if_neg (by omega), if_neg (by omega), if_pos hc]
    rw [hw] at hws hlen
    rw [List.length_cons] at hlen
    have r1 : rdOf ByteArray.empty ws 1 = ⟨#[99, 104, 111, 105, 99, 101]⟩ := by rw [hws]; rfl
    have ht := implChoice F.f5 F.f6 F.f0 3 0 0 F.f4 [] (ws.drop 2) (plain_of hb) (by simp; omega) (by rw [hws]; rfl)
    rw [hc, h2, h3]
    refine ev_neg (by omega) (ev_pos (by omega) (ev_pos (by omega) (ev_pos (by omega) (ev_some (ev_neg (by rw [r1]; exact neL tC (by decide)) ?_)))))
    rw [r1, r0]
    have hj : ∀ x : Bool, ¬ x = true → Ev (fun k => impl_fieldOfWords.j0 k (⟨#[99, 104, 111, 105, 99, 101]⟩ : ByteArray) (ws.drop 2) (⟨#[99, 104, 111, 105, 99, 101]⟩ : ByteArray) x F.f0 0 0 0 false e0) (F.f0, 3, 0, 0, F.f4, F.f5, F.f6, true) := fun x hx =>
      Ev.step (fun k => rfl) (ev_neg hx (ev_pos tC ht))
    exact hj _ (nbL tC (by decide))
  · have hw : kindW F = [⟨#[102, 108, 97, 103]⟩] := by unfold kindW; rw [if_neg (by omega), if_neg (by omega), if_neg (by omega)]
    rw [hw] at hws hlen
    have hlen' : ws.length = 2 + (needW F.f5 ++ ifW F.f6).length := by rw [hlen]; simp only [List.length_cons, List.length_nil]; omega
    have r1 : rdOf ByteArray.empty ws 1 = ⟨#[102, 108, 97, 103]⟩ := by rw [hws]; rfl
    have ht := implTail (ws.drop 2) F.f5 F.f6 (by rw [hws]; rfl) F.f0 4 0 0 []
    rw [hc, h2, h3, h4]
    refine ev_neg (by omega) (ev_pos (by omega) (ev_pos (by omega) (ev_pos (by omega) (ev_some (ev_neg (by rw [r1]; exact neL tG (by decide)) ?_)))))
    rw [r1, r0]
    have hj : ∀ x : Bool, ¬ x = true → Ev (fun k => impl_fieldOfWords.j0 k (⟨#[102, 108, 97, 103]⟩ : ByteArray) (ws.drop 2) (⟨#[102, 108, 97, 103]⟩ : ByteArray) x F.f0 0 0 0 false e0) (F.f0, 4, 0, 0, [], F.f5, F.f6, true) := fun x hx =>
      Ev.step (fun k => rfl) (ev_neg hx (ev_neg (neL tG (by decide)) (ev_pos tG ht)))
    exact hj _ (nbL tG (by decide))
end Go.Proofs.YtcjloeeomhiblaaDoor.X
set_option linter.unusedVariables false
set_option linter.unusedSimpArgs false
namespace Go.Proofs.YtcjloeeomhiblaaDoor.X
open Go.RowKit Go.Proofs.YtcjloeeomhiblaaDoorW.PrintWords Go.Proofs.YtcjloeeomhiblaaDoor.E
def Wds (ws : List ByteArray) : Prop := ws.length ≤ 5000 ∧ ∀ w ∈ ws, w.size ≤ 4000
def Sm4 (F : Field) : Prop := F.f0.size ≤ 4000 ∧ F.f4.length ≤ 5000 ∧ (∀ s ∈ F.f4, s.size ≤ 4000) ∧ F.f6.size ≤ 4000
theorem e0_size : e0.size ≤ 4000 := by decide
theorem rd_sz {ws : List ByteArray} (h : Wds ws) (i : Int) : (rdOf ByteArray.empty ws i).size ≤ 4000 := by
  unfold rdOf
  rw [List.getD_eq_getElem?_getD]
  cases e : ws[i.toNat]? with
  | none => exact e0_size
  | some x => exact h.2 x (List.mem_of_getElem? e)
theorem specJ4_tot (ws : List ByteArray) (h : Wds ws) (at_ : Nat) (hat : at_ ≤ ws.length) (x : Bool) (hx : x = true → at_ < ws.length) (n : ByteArray) (c l m : Int) (cs : List ByteArray) :
    ∃ nd f b, Ev (fun k => spec_l23ReadField.j4 k ws (at_ : Int) x n c l m cs false e0) (n, c, l, m, cs, nd, f, b) ∧ f.size ≤ 4000 := by
  have hl := h.1
  have hw1 : wrap64 ((at_ : Int) + 1) = (at_ : Int) + 1 := wrap_id (by omega) (by omega)
  have hw2 : wrap64 ((at_ : Int) + 1 + 1) = (at_ : Int) + 2 := by rw [wrap_id (by omega) (by omega)]; omega
  have hw3 : wrap64 ((at_ : Int) + 1 + 2) = (at_ : Int) + 3 := by rw [wrap_id (by omega) (by omega)]; omega
  have hw4 : wrap64 ((at_ : Int) + 2) = (at_ : Int) + 2 := wrap_id (by omega) (by omega)
  by_cases hx0 : x = true
  case neg =>
    by_cases c1 : (at_ : Int) + 1 < (ws.length : Int)
    · by_cases c2 : (rdOf ByteArray.empty ws (at_ : Int)).toList = ([105, 102] : List UInt8)
      · refine ⟨false, rdOf ByteArray.empty ws ((at_ : Int) + 1), ((at_ : Int) + 2 == (ws.length : Int)), Ev.step (fun k => rfl) (ev_neg hx0 ?_), rd_sz h _⟩
        simp only [hw1, hw4]
        exact ev_pos c1 (ev_pos (by omega) (ev_pos (by omega) (ev_pos c2 (ev_pos (by omega) (ev_now rfl)))))
      · refine ⟨false, e0, ((at_ : Int) == (ws.length : Int)), Ev.step (fun k => rfl) (ev_neg hx0 ?_), e0_size⟩
        simp only [hw1, hw4]
        exact ev_pos c1 (ev_pos (by omega) (ev_pos (by omega) (ev_neg c2 (ev_now rfl))))
    · refine ⟨false, e0, ((at_ : Int) == (ws.length : Int)), Ev.step (fun k => rfl) (ev_neg hx0 ?_), e0_size⟩
      simp only [hw1, hw4]
      exact ev_neg c1 (ev_now rfl)
  · have hlt := hx hx0
    by_cases c1 : (at_ : Int) + 2 < (ws.length : Int)
    · by_cases c2 : (rdOf ByteArray.empty ws ((at_ : Int) + 1)).toList = ([105, 102] : List UInt8)
      · refine ⟨true, rdOf ByteArray.empty ws ((at_ : Int) + 2), ((at_ : Int) + 3 == (ws.length : Int)), Ev.step (fun k => rfl) (ev_pos hx0 ?_), rd_sz h _⟩
        simp only [hw1, hw2, hw3]
        exact ev_pos c1 (ev_pos (by omega) (ev_pos (by omega) (ev_pos c2 (ev_pos (by omega) (ev_now rfl)))))
      · refine ⟨true, e0, ((at_ : Int) + 1 == (ws.length : Int)), Ev.step (fun k => rfl) (ev_pos hx0 ?_), e0_size⟩
        simp only [hw1, hw2, hw3]
        exact ev_pos c1 (ev_pos (by omega) (ev_pos (by omega) (ev_neg c2 (ev_now rfl))))
    · refine ⟨true, e0, ((at_ : Int) + 1 == (ws.length : Int)), Ev.step (fun k => rfl) (ev_pos hx0 ?_), e0_size⟩
      simp only [hw1, hw2, hw3]
      exact ev_neg c1 (ev_now rfl)
theorem specJ3_tot (ws : List ByteArray) (h : Wds ws) (at_ : Nat) (hat : at_ ≤ ws.length) (n : ByteArray) (c l m : Int) (cs : List ByteArray) :
    ∃ nd f b, Ev (fun k => spec_l23ReadField.j3 k ws (at_ : Int) n c l m cs false e0) (n, c, l, m, cs, nd, f, b) ∧ f.size ≤ 4000 := by
  by_cases c1 : at_ < ws.length
  · obtain ⟨nd, f, b, h1, h2⟩ := specJ4_tot ws h at_ hat ((rdOf ByteArray.empty ws (at_ : Int)).toList == ([110, 101, 101, 100, 101, 100] : List UInt8)) (fun _ => c1) n c l m cs
    exact ⟨nd, f, b, Ev.step (fun k => rfl) (ev_pos (by omega) (ev_pos (by omega) h1)), h2⟩
  · obtain ⟨nd, f, b, h1, h2⟩ := specJ4_tot ws h at_ hat false (fun e => by cases e) n c l m cs
    exact ⟨nd, f, b, Ev.step (fun k => rfl) (ev_neg (by omega) h1), h2⟩
theorem specL0_tot (ws : List ByteArray) (h : Wds ws) (n : ByteArray) (c l m : Int) : ∀ (d at_ : Nat) (done : List ByteArray), at_ + d = ws.length → done.length ≤ at_ → (∀ s ∈ done, s.size ≤ 4000) →
    ∃ cs nd f b, Ev (fun k => spec_l23ReadField.l0 k ws (at_ : Int) n c l m done false e0) (n, c, l, m, cs, nd, f, b) ∧ f.size ≤ 4000 ∧ cs.length ≤ 5000 ∧ ∀ s ∈ cs, s.size ≤ 4000 := by
  have hl := h.1
  intro d
  induction d with
  | zero =>
    intro at_ done e hd hs
    obtain ⟨nd, f, b, h1, h2⟩ := specJ3_tot ws h at_ (by omega) n c l m done
    exact ⟨done, nd, f, b, Ev.step (fun k => rfl) (ev_neg (by omega) h1), h2, by omega, hs⟩
  | succ d ih =>
    intro at_ done e hd hs
    obtain ⟨nd, f, b, h1, h2⟩ := specJ3_tot ws h at_ (by omega) n c l m done
    by_cases c1 : (rdOf ByteArray.empty ws (at_ : Int)).toList = ([110, 101, 101, 100, 101, 100] : List UInt8)
    · exact ⟨done, nd, f, b, Ev.step (fun k => rfl) (ev_pos (by omega) (ev_pos (by omega) (ev_pos c1 h1))), h2, by omega, hs⟩
    by_cases c2 : (rdOf ByteArray.empty ws (at_ : Int)).toList = ([105, 102] : List UInt8)
    · exact ⟨done, nd, f, b, Ev.step (fun k => rfl) (ev_pos (by omega) (ev_pos (by omega) (ev_neg c1 (ev_pos c2 h1)))), h2, by omega, hs⟩
    obtain ⟨cs, nd, f, b, h3, h4⟩ := ih (at_ + 1) (done ++ [rdOf ByteArray.empty ws (at_ : Int)]) (by omega) (by rw [List.length_append, List.length_singleton]; omega) (fun s hm => by
      rcases List.mem_append.1 hm with hm | hm
      · exact hs s hm
      · rw [List.mem_singleton.1 hm]; exact rd_sz h _)
    refine ⟨cs, nd, f, b, Ev.step (fun k => rfl) (ev_pos (by omega) (ev_pos (by omega) (ev_neg c1 (ev_neg c2 (ev_pos (by omega) ?_))))), h4⟩
    rw [wrap_succ (show at_ < ws.length by omega) (by omega)]
    exact h3
theorem specRead_tot (ws : List ByteArray) (h : Wds ws) : ∃ (F : Field) (b : Bool), Ev (fun k => spec_l23ReadField.f k ws) (tupF F b) ∧ Sm4 F := by
  have hl := h.1
  have hn := rd_sz h 0
  unfold spec_l23ReadField.f
  by_cases c0 : (ws.length : Int) < 2
  · exact ⟨⟨e0, 0, 0, 0, [], false, e0⟩, false, ev_pos c0 (ev_now rfl), e0_size, by simp, by simp, e0_size⟩
  have key : ∀ x20 x22, x20 = rdOf ByteArray.empty ws 1 → ∃ (F : Field) (b : Bool), Ev (fun k => spec_l23ReadField.j0 k ws 2 x20 x22 (rdOf ByteArray.empty ws 0) 0 0 0 false e0) (tupF F b) ∧ Sm4 F := by
    intro x20 x22 _
    by_cases hx0 : x22 = true
    case neg =>
      by_cases c1 : x20.toList = ([99, 104, 111, 105, 99, 101] : List UInt8)
      · obtain ⟨cs, nd, f, b, h1, h2, h3, h4⟩ := specL0_tot ws h (rdOf ByteArray.empty ws 0) 3 0 0 (ws.length - 2) 2 [] (by omega) (by simp) (by simp)
        exact ⟨⟨rdOf ByteArray.empty ws 0, 3, 0, 0, cs, nd, f⟩, b, Ev.step (fun k => rfl) (ev_neg hx0 (ev_pos c1 h1)), hn, h3, h4, h2⟩
      by_cases c2 : x20.toList = ([102, 108, 97, 103] : List UInt8)
      · obtain ⟨nd, f, b, h1, h2⟩ := specJ3_tot ws h 2 (by omega) (rdOf ByteArray.empty ws 0) 4 0 0 []
        exact ⟨⟨rdOf ByteArray.empty ws 0, 4, 0, 0, [], nd, f⟩, b, Ev.step (fun k => rfl) (ev_neg hx0 (ev_neg c1 (ev_pos c2 h1))), hn, by simp, by simp, h2⟩
      · exact ⟨⟨rdOf ByteArray.empty ws 0, 0, 0, 0, [], false, e0⟩, false, Ev.step (fun k => rfl) (ev_neg hx0 (ev_neg c1 (ev_neg c2 (ev_now rfl)))), hn, by simp, by simp, e0_size⟩
    · have key1 : ∀ kd : Int, ∃ (F : Field) (b : Bool), Ev (fun k => spec_l23ReadField.j1 k ws (rdOf ByteArray.empty ws 0) kd 0 0 false e0) (tupF F b) ∧ Sm4 F := by
        intro kd
        by_cases c1 : (ws.length : Int) < 4
        · exact ⟨⟨rdOf ByteArray.empty ws 0, kd, 0, 0, [], false, e0⟩, false, Ev.step (fun k => rfl) (ev_pos c1 (ev_now rfl)), hn, by simp, by simp, e0_size⟩
        have p1 := specParse_ev (rdOf ByteArray.empty ws 2)
        have p2 := specParse_ev (rdOf ByteArray.empty ws 3)
        by_cases d1 : (parseE (rdOf ByteArray.empty ws 2)).2 = true
        · by_cases d2 : (parseE (rdOf ByteArray.empty ws 3)).2 = true
          · obtain ⟨nd, f, b, h1, h2⟩ := specJ3_tot ws h 4 (by omega) (rdOf ByteArray.empty ws 0) kd (parseE (rdOf ByteArray.empty ws 2)).1 (parseE (rdOf ByteArray.empty ws 3)).1 []
            exact ⟨⟨rdOf ByteArray.empty ws 0, kd, (parseE (rdOf ByteArray.empty ws 2)).1, (parseE (rdOf ByteArray.empty ws 3)).1, [], nd, f⟩, b, Ev.step (fun k => rfl) (ev_neg c1 (ev_pos (by omega) (Ev.bind p1 (ev_pos (by omega) (Ev.bind p2 (ev_pos d1 (ev_pos d2 h1))))))), hn, by simp, by simp, h2⟩
          · exact ⟨⟨rdOf ByteArray.empty ws 0, kd, 0, 0, [], false, e0⟩, false, Ev.step (fun k => rfl) (ev_neg c1 (ev_pos (by omega) (Ev.bind p1 (ev_pos (by omega) (Ev.bind p2 (ev_pos d1 (ev_neg d2 (ev_now rfl)))))))), hn, by simp, by simp, e0_size⟩
        · exact ⟨⟨rdOf ByteArray.empty ws 0, kd, 0, 0, [], false, e0⟩, false, Ev.step (fun k => rfl) (ev_neg c1 (ev_pos (by omega) (Ev.bind p1 (ev_pos (by omega) (Ev.bind p2 (ev_neg d1 (ev_now rfl))))))), hn, by simp, by simp, e0_size⟩
      by_cases c1 : (rdOf ByteArray.empty ws 1).toList = ([116, 101, 120, 116] : List UInt8)
      · obtain ⟨F, b, h1, h2⟩ := key1 2
        exact ⟨F, b, Ev.step (fun k => rfl) (ev_pos hx0 (ev_pos (by omega) (ev_pos c1 h1))), h2⟩
      · obtain ⟨F, b, h1, h2⟩ := key1 1
        exact ⟨F, b, Ev.step (fun k => rfl) (ev_pos hx0 (ev_pos (by omega) (ev_neg c1 h1))), h2⟩
  by_cases c1 : (rdOf ByteArray.empty ws 1).toList = ([110, 117, 109, 98, 101, 114] : List UInt8)
  · obtain ⟨F, b, h1, h2⟩ := key _ _ rfl
    exact ⟨F, b, ev_neg c0 (ev_pos (by omega) (ev_pos (by omega) (ev_pos c1 h1))), h2⟩
  · obtain ⟨F, b, h1, h2⟩ := key _ _ rfl
    exact ⟨F, b, ev_neg c0 (ev_pos (by omega) (ev_pos (by omega) (ev_neg c1 h1))), h2⟩
theorem wds_drop {ws : List ByteArray} (h : Wds ws) (i : Nat) : Wds (ws.drop i) := ⟨by rw [List.length_drop]; have := h.1; omega, fun w hw => h.2 w (List.mem_of_mem_drop hw)⟩
theorem implJ4_tot (ws : List ByteArray) (h : Wds ws) (x : Bool) (hx : x = true → 1 ≤ ws.length) (n : ByteArray) (c l m : Int) (cs : List ByteArray) :
    ∃ nd f, Ev (fun k => impl_fieldOfWords.j4 k ws x n c l m cs false e0) (n, c, l, m, cs, nd, f, true) ∧ f.size ≤ 4000 := by
  by_cases hx0 : x = true
  case neg =>
    by_cases c1 : (ws.length : Int) = 2
    · exact ⟨false, rdOf ByteArray.empty ws 1, Ev.step (fun k => rfl) (ev_neg hx0 (ev_pos c1 (ev_pos (by omega) (ev_now rfl)))), rd_sz h _⟩
    · exact ⟨false, e0, Ev.step (fun k => rfl) (ev_neg hx0 (ev_neg c1 (ev_now rfl))), e0_size⟩
  · have hlt := hx hx0
    by_cases c1 : ((ws.drop 1).length : Int) = 2
    · exact ⟨true, rdOf ByteArray.empty (ws.drop 1) 1, Ev.step (fun k => rfl) (ev_pos hx0 (ev_pos (by omega) (ev_some (ev_pos c1 (ev_pos (by omega) (ev_now rfl)))))), rd_sz (wds_drop h 1) _⟩
    · exact ⟨true, e0, Ev.step (fun k => rfl) (ev_pos hx0 (ev_pos (by omega) (ev_some (ev_neg c1 (ev_now rfl))))), e0_size⟩
theorem implJ3_tot (ws : List ByteArray) (h : Wds ws) (n : ByteArray) (c l m : Int) (cs : List ByteArray) :
    ∃ nd f, Ev (fun k => impl_fieldOfWords.j3 k ws n c l m cs false e0) (n, c, l, m, cs, nd, f, true) ∧ f.size ≤ 4000 := by
  by_cases c1 : (ws.length : Int) > 0
  · obtain ⟨nd, f, h1, h2⟩ := implJ4_tot ws h ((rdOf ByteArray.empty ws 0).toList == ([110, 101, 101, 100, 101, 100] : List UInt8)) (fun _ => by omega) n c l m cs
    exact ⟨nd, f, Ev.step (fun k => rfl) (ev_pos c1 (ev_pos (by omega) h1)), h2⟩
  · obtain ⟨nd, f, h1, h2⟩ := implJ4_tot ws h false (fun e => by cases e) n c l m cs
    exact ⟨nd, f, Ev.step (fun k => rfl) (ev_neg c1 h1), h2⟩
theorem implL0_tot (n : ByteArray) (c l m : Int) : ∀ (d : Nat) (ws done : List ByteArray), ws.length = d → Wds ws → ws.length + done.length ≤ 5000 → (∀ s ∈ done, s.size ≤ 4000) →
    ∃ cs nd f, Ev (fun k => impl_fieldOfWords.l0 k ws n c l m done false e0) (n, c, l, m, cs, nd, f, true) ∧ f.size ≤ 4000 ∧ cs.length ≤ 5000 ∧ ∀ s ∈ cs, s.size ≤ 4000 := by
  intro d
  induction d with
  | zero =>
    intro ws done e h hd hs
    obtain ⟨nd, f, h1, h2⟩ := implJ3_tot ws h n c l m done
    exact ⟨done, nd, f, Ev.step (fun k => rfl) (ev_neg (by omega) h1), h2, by omega, hs⟩
  | succ d ih =>
    intro ws done e h hd hs
    obtain ⟨nd, f, h1, h2⟩ := implJ3_tot ws h n c l m done
    by_cases c1 : (rdOf ByteArray.empty ws 0).toList = ([110, 101, 101, 100, 101, 100] : List UInt8)
    · exact ⟨done, nd, f, Ev.step (fun k => rfl) (ev_pos (by omega) (ev_pos (by omega) (ev_pos c1 h1))), h2, by omega, hs⟩
    by_cases c2 : (rdOf ByteArray.empty ws 0).toList = ([105, 102] : List UInt8)
    · exact ⟨done, nd, f, Ev.step (fun k => rfl) (ev_pos (by omega) (ev_pos (by omega) (ev_neg c1 (ev_pos c2 h1)))), h2, by omega, hs⟩
    obtain ⟨cs, nd, f, h3, h4⟩ := ih (ws.drop 1) (done ++ [rdOf ByteArray.empty ws 0]) (by rw [List.length_drop]; omega) (wds_drop h 1) (by rw [List.length_drop, List.length_append, List.length_singleton]; omega) (fun s hm => by
      rcases List.mem_append.1 hm with hm | hm
      · exact hs s hm
      · rw [List.mem_singleton.1 hm]; exact rd_sz h _)
    exact ⟨cs, nd, f, Ev.step (fun k => rfl) (ev_pos (by omega) (ev_pos (by omega) (ev_neg c1 (ev_neg c2 (ev_pos (by omega) (ev_pos (by omega) h3)))))), h4⟩
theorem implRead_tot (ws : List ByteArray) (h : Wds ws) : ∃ (F : Field) (b : Bool), Ev (fun k => impl_fieldOfWords.f k ws) (tupF F b) ∧ Sm4 F := by
  have hl := h.1
  have hn := rd_sz h 0
  unfold impl_fieldOfWords.f
  by_cases c0 : (ws.length : Int) < 2
  · exact ⟨⟨e0, 0, 0, 0, [], false, e0⟩, false, ev_pos c0 (ev_now rfl), e0_size, by simp, by simp, e0_size⟩
  have hd := wds_drop h 2
  have hdl : (ws.drop 2).length = ws.length - 2 := List.length_drop
  have key : ∀ x21, ∃ (F : Field) (b : Bool), Ev (fun k => impl_fieldOfWords.j0 k (rdOf ByteArray.empty ws 1) (ws.drop 2) (rdOf ByteArray.empty ws 1) x21 (rdOf ByteArray.empty ws 0) 0 0 0 false e0) (tupF F b) ∧ Sm4 F := by
    intro x21
    by_cases hx0 : x21 = true
    case neg =>
      by_cases c1 : (rdOf ByteArray.empty ws 1).toList = ([99, 104, 111, 105, 99, 101] : List UInt8)
      · obtain ⟨cs, nd, f, h1, h2, h3, h4⟩ := implL0_tot (rdOf ByteArray.empty ws 0) 3 0 0 _ (ws.drop 2) [] rfl hd (by simp; omega) (by simp)
        exact ⟨⟨rdOf ByteArray.empty ws 0, 3, 0, 0, cs, nd, f⟩, true, Ev.step (fun k => rfl) (ev_neg hx0 (ev_pos c1 h1)), hn, h3, h4, h2⟩
      by_cases c2 : (rdOf ByteArray.empty ws 1).toList = ([102, 108, 97, 103] : List UInt8)
      · obtain ⟨nd, f, h1, h2⟩ := implJ3_tot (ws.drop 2) hd (rdOf ByteArray.empty ws 0) 4 0 0 []
        exact ⟨⟨rdOf ByteArray.empty ws 0, 4, 0, 0, [], nd, f⟩, true, Ev.step (fun k => rfl) (ev_neg hx0 (ev_neg c1 (ev_pos c2 h1))), hn, by simp, by simp, h2⟩
      · obtain ⟨nd, f, h1, h2⟩ := implJ3_tot (ws.drop 2) hd (rdOf ByteArray.empty ws 0) 0 0 0 []
        exact ⟨⟨rdOf ByteArray.empty ws 0, 0, 0, 0, [], nd, f⟩, true, Ev.step (fun k => rfl) (ev_neg hx0 (ev_neg c1 (ev_neg c2 h1))), hn, by simp, by simp, h2⟩
    · have key1 : ∀ kd : Int, ∃ (F : Field) (b : Bool), Ev (fun k => impl_fieldOfWords.j1 k (ws.drop 2) (rdOf ByteArray.empty ws 0) kd 0 0 false e0) (tupF F b) ∧ Sm4 F := by
        intro kd
        by_cases c1 : ((ws.drop 2).length : Int) < 2
        · exact ⟨⟨e0, 0, 0, 0, [], false, e0⟩, false, Ev.step (fun k => rfl) (ev_pos c1 (ev_now rfl)), e0_size, by simp, by simp, e0_size⟩
        have p1 : impl_ParseInt.f (rdOf ByteArray.empty (ws.drop 2) 0) = some (parseE (rdOf ByteArray.empty (ws.drop 2) 0)) := parseInt_eq _ (Nat.le_trans (rd_sz hd 0) (by decide))
        have p2 : impl_ParseInt.f (rdOf ByteArray.empty (ws.drop 2) 1) = some (parseE (rdOf ByteArray.empty (ws.drop 2) 1)) := parseInt_eq _ (Nat.le_trans (rd_sz hd 1) (by decide))
        obtain ⟨nd, f, h1, h2⟩ := implJ3_tot ((ws.drop 2).drop 2) (wds_drop hd 2) (rdOf ByteArray.empty ws 0) kd (parseE (rdOf ByteArray.empty (ws.drop 2) 0)).1 (parseE (rdOf ByteArray.empty (ws.drop 2) 1)).1 []
        exact ⟨⟨rdOf ByteArray.empty ws 0, kd, (parseE (rdOf ByteArray.empty (ws.drop 2) 0)).1, (parseE (rdOf ByteArray.empty (ws.drop 2) 1)).1, [], nd, f⟩, true, Ev.step (fun k => rfl) (ev_neg c1 (ev_pos (by omega) (ev_bind0 p1 (ev_pos (by omega) (ev_bind0 p2 (ev_pos (by omega) h1)))))), hn, by simp, by simp, h2⟩
      by_cases c1 : (rdOf ByteArray.empty ws 1).toList = ([116, 101, 120, 116] : List UInt8)
      · obtain ⟨F, b, h1, h2⟩ := key1 2
        exact ⟨F, b, Ev.step (fun k => rfl) (ev_pos hx0 (ev_pos c1 h1)), h2⟩
      · obtain ⟨F, b, h1, h2⟩ := key1 1
        exact ⟨F, b, Ev.step (fun k => rfl) (ev_pos hx0 (ev_neg c1 h1)), h2⟩
  by_cases c1 : (rdOf ByteArray.empty ws 1).toList = ([110, 117, 109, 98, 101, 114] : List UInt8)
  · obtain ⟨F, b, h1, h2⟩ := key _
    exact ⟨F, b, ev_neg c0 (ev_pos (by omega) (ev_pos (by omega) (ev_pos (by omega) (ev_some (ev_pos c1 h1))))), h2⟩
  · obtain ⟨F, b, h1, h2⟩ := key _
    exact ⟨F, b, ev_neg c0 (ev_pos (by omega) (ev_pos (by omega) (ev_pos (by omega) (ev_some (ev_neg c1 h1))))), h2⟩
end Go.Proofs.YtcjloeeomhiblaaDoor.X
set_option linter.unusedVariables false
set_option linter.unusedSimpArgs false
namespace Go.Proofs.YtcjloeeomhiblaaDoor.X
open Go.RowKit Go.Proofs.YtcjloeeomhiblaaDoorW.PrintWords Go.Proofs.YtcjloeeomhiblaaDoor.E
theorem ixb_no : ∀ (l : List UInt8) (c : UInt8), c ∉ l → Lib.indexByte l c = -1
  | [], _, _ => rfl
  | b :: l, c, h => by
    have hb : (b == c) = false := by rw [beq_eq_false_iff_ne]; intro e; subst e; exact h (List.mem_cons_self ..)
    rw [Lib.indexByte, hb, ixb_no l c (fun m => h (List.mem_cons_of_mem _ m))]
    rfl
theorem ixb_yes : ∀ (l r : List UInt8) (c : UInt8), c ∉ l → Lib.indexByte (l ++ c :: r) c = (l.length : Int)
  | [], r, c, _ => by simp [Lib.indexByte]
  | b :: l, r, c, h => by
    have hb : (b == c) = false := by rw [beq_eq_false_iff_ne]; intro e; subst e; exact h (List.mem_cons_self ..)
    rw [List.cons_append, Lib.indexByte, hb, ixb_yes l r c (fun m => h (List.mem_cons_of_mem _ m))]
    have : ((l.length : Int) == -1) = false := by rw [beq_eq_false_iff_ne]; omega
    rw [this]
    simp
theorem splitK_one (c : UInt8) : ∀ (k : Nat) (l : List UInt8), l.count c ≤ k → Lib.splitK [c] 0 k l = splitL c l := by
  intro k
  induction k with
  | zero =>
    intro l h
    have hn : c ∉ l := List.count_eq_zero.1 (by omega)
    rw [Lib.splitK, splitL_no hn]
  | succ k ih =>
    intro l h
    rw [Lib.splitK, Lib.index_one]
    by_cases hm : c ∈ l
    · obtain ⟨a, b, e, hn⟩ := List.eq_append_cons_of_mem hm
      subst e
      have hc : b.count c ≤ k := by
        rw [List.count_append, List.count_cons_self] at h
        omega
      have e0 : (((a.length : Int)) == -1) = false := by rw [beq_eq_false_iff_ne]; omega
      rw [ixb_yes a b c hn, e0, splitL_yes b hn, ← ih b hc]
      simp
    · rw [ixb_no l c hm, splitL_no hm]
      rfl
theorem splitB_one (s : ByteArray) (c : UInt8) : Lib.splitB (mkB [c]) 0 (Lib.countB s (mkB [c])) s = (splitL c s.data.toList).map mkB := by
  have h := Lib.splitB_data (mkB [c]) 0 (Lib.countB s (mkB [c])) s
  have hc : Lib.countB s (mkB [c]) = s.data.toList.count c := by
    show Lib.count s.data.toList (mkB [c]).data.toList = _
    rw [mkB_list, Lib.count_one]
  rw [mkB_list, hc, splitK_one c _ _ (Nat.le_refl _)] at h
  rw [← h, List.map_map, hc]
  symm
  exact (List.map_congr_left (g := id) (fun x _ => mkB_eta x)).trans (List.map_id _)
end Go.Proofs.YtcjloeeomhiblaaDoor.X
set_option linter.unusedVariables false
set_option linter.unusedSimpArgs false
namespace Go.Proofs.YtcjloeeomhiblaaDoor.X
open Go.RowKit Go.Proofs.YtcjloeeomhiblaaDoorW.PrintWords Go.Proofs.YtcjloeeomhiblaaDoor.E
theorem splitL_len (c : UInt8) : ∀ l : List UInt8, (splitL c l).length ≤ l.length + 1
  | [] => by simp [splitL]
  | b :: l => by
    have h := splitL_len c l
    have hn := splitL_ne c l
    unfold splitL
    split
    · simp only [List.length_cons]; omega
    · unfold consH
      split
      · simp
      · rename_i hd tl e
        rw [e] at h
        simp only [List.length_cons] at h ⊢
        omega
theorem splitL_mem (c : UInt8) : ∀ l : List UInt8, ∀ p ∈ splitL c l, p.length ≤ l.length
  | [], p, hp => by simp [splitL] at hp; simp [hp]
  | b :: l, p, hp => by
    have h := splitL_mem c l
    unfold splitL at hp
    split at hp
    · rcases List.mem_cons.1 hp with rfl | hp
      · simp
      · have := h p hp; rw [List.length_cons]; omega
    · unfold consH at hp
      split at hp
      · rcases List.mem_cons.1 hp with rfl | hp
        · simp
        · simp at hp
      · rename_i hd tl e
        rw [e] at h
        rcases List.mem_cons.1 hp with rfl | hp
        · have := h hd List.mem_cons_self; simp only [List.length_cons]; omega
        · have := h p (List.mem_cons_of_mem _ hp); rw [List.length_cons]; omega
def pieces (c : UInt8) (s : ByteArray) : List ByteArray := (splitL c s.data.toList).map mkB
theorem pieces_wds (c : UInt8) (s : ByteArray) (h : s.size ≤ 4000) : Wds (pieces c s) := by
  have hs : s.data.toList.length = s.size := Array.length_toList
  refine ⟨?_, fun w hw => ?_⟩
  · unfold pieces
    rw [List.length_map]
    have := splitL_len c s.data.toList
    omega
  · unfold pieces at hw
    obtain ⟨p, hp, rfl⟩ := List.mem_map.1 hw
    have := splitL_mem c _ p hp
    rw [mkB_size]
    omega
theorem pieces_ne (c : UInt8) (s : ByteArray) : 1 ≤ (pieces c s).length := by
  unfold pieces
  rw [List.length_map]
  have := splitL_ne c s.data.toList
  rcases h : splitL c s.data.toList with _ | ⟨x, r⟩
  · exact absurd h this
  · simp
theorem split_f (s : ByteArray) (c : UInt8) (h : s.size ≤ 4000) : strings_Split.f s (mkB [c]) = some (pieces c s) := by
  have hc : Lib.countB s (mkB [c]) = s.data.toList.count c := by
    show Lib.count s.data.toList (mkB [c]).data.toList = _
    rw [mkB_list, Lib.count_one]
  have hl : s.data.toList.count c ≤ s.data.toList.length := List.count_le_length
  have hs : s.data.toList.length = s.size := Array.length_toList
  unfold strings_Split.f
  rw [if_pos ⟨⟨by omega, by rw [mkB_size]; simp⟩, by rw [hc]; omega⟩, splitB_one]
  rfl
theorem spec_split (s : ByteArray) (c : UInt8) (c' : Int) (hc : c' = (c.toNat : Int)) (h : s.size ≤ 4000) : Ev (fun k => spec_l1Split.f k s c') (pieces c s) := l1Split_ev s c (by omega) c' hc
open Classical in
noncomputable def gI (ws : List ByteArray) : Field × Bool := if h : ∃ p : Field × Bool, Ev (fun k => impl_fieldOfWords.f k ws) (tupF p.1 p.2) ∧ Sm4 p.1 then Classical.choose h else (zF, false)
open Classical in
noncomputable def gS (ws : List ByteArray) : Field × Bool := if h : ∃ p : Field × Bool, Ev (fun k => spec_l23ReadField.f k ws) (tupF p.1 p.2) ∧ Sm4 p.1 then Classical.choose h else (zF, false)
theorem gI_ev {ws : List ByteArray} (h : Wds ws) : Ev (fun k => impl_fieldOfWords.f k ws) (tupF (gI ws).1 (gI ws).2) ∧ Sm4 (gI ws).1 := by
  have hx : ∃ p : Field × Bool, Ev (fun k => impl_fieldOfWords.f k ws) (tupF p.1 p.2) ∧ Sm4 p.1 := by
    obtain ⟨F, b, h1, h2⟩ := implRead_tot ws h
    exact ⟨(F, b), h1, h2⟩
  unfold gI
  rw [dif_pos hx]
  exact Classical.choose_spec hx
theorem gS_ev {ws : List ByteArray} (h : Wds ws) : Ev (fun k => spec_l23ReadField.f k ws) (tupF (gS ws).1 (gS ws).2) ∧ Sm4 (gS ws).1 := by
  have hx : ∃ p : Field × Bool, Ev (fun k => spec_l23ReadField.f k ws) (tupF p.1 p.2) ∧ Sm4 p.1 := by
    obtain ⟨F, b, h1, h2⟩ := specRead_tot ws h
    exact ⟨(F, b), h1, h2⟩
  unfold gS
  rw [dif_pos hx]
  exact Classical.choose_spec hx
theorem tupF_inj {F G : Field} {a b : Bool} (h : tupF F a = tupF G b) : F = G ∧ a = b := by
  unfold tupF at h
  simp only [Prod.mk.injEq] at h
  obtain ⟨h0, h1, h2, h3, h4, h5, h6, h7⟩ := h
  refine ⟨?_, h7⟩
  cases F; cases G
  simp_all
noncomputable def fldsI (L : List ByteArray) : List Field := L.map (fun l => (gI (pieces 32 l)).1)
noncomputable def fldsS (L : List ByteArray) : List Field := L.map (fun l => (gS (pieces 32 l)).1)
def Told (form : List Field) (t : ByteArray) : Prop := formB form = true ∧ allGood form = true ∧ t = textUp form form.length
theorem formOk_of {form : List Field} (h : formB form = true) (hs : ∀ f ∈ form, Sm4 f) : FormOk form := by
  unfold formB at h
  rw [Bool.and_eq_true, decide_eq_true_eq, all_range] at h
  have hk : ∀ i, i < form.length → kindOk (form.getD i zF) = true := by
    intro i hi
    have := h.2 i hi
    unfold fieldB at this
    rw [Bool.and_eq_true] at this
    exact this.2
  refine ⟨by omega, hk, fun i hi => ?_⟩
  have g := hs _ (List.getElem_mem hi)
  rw [← getD_in hi zF] at g
  have h4 : (form.getD i zF).f4.length ≤ 6 := by
    rcases kind_cases (hk i hi) with ⟨_, _, _, h⟩ | ⟨_, _, _, h⟩ | ⟨_, _, _, h⟩
    · rw [h]; simp
    · exact h
    · rw [h]; simp
  exact ⟨Nat.le_trans g.1 (by decide), h4, fun s hm => Nat.le_trans (g.2.2.1 s hm) (by decide), Nat.le_trans g.2.2.2 (by decide)⟩
theorem sm4_fine {f : Field} (h : Sm4 f) : fine f := ⟨Nat.le_trans h.1 (by decide), Nat.le_trans h.2.1 (by decide), fun s hm => Nat.le_trans (h.2.2.1 s hm) (by decide), Nat.le_trans h.2.2.2 (by decide)⟩
theorem implFmt_any (form : List Field) (hl : form.length ≤ 5000) (hs : ∀ f ∈ form, Sm4 f) : ∃ t b, Ev (fun k => impl_FormatForm.f k form) (t, b) ∧ (b = true → Told form t) ∧ (∀ t', Told form t' → b = true ∧ t = t') := by
  have h1 := implForm_ev form (by omega) (fun f hf => sm4_fine (hs f hf))
  unfold impl_FormatForm.f
  cases hv : formB form
  · rw [hv] at h1
    exact ⟨_, false, Ev.bind h1 (ev_neg (by simp) (ev_now rfl)), fun e => (by cases e), fun t' h => by rw [h.1] at hv; cases hv⟩
  rw [hv] at h1
  have V := formOk_of hv hs
  have e2 := implFmt_ev V
  cases hg : allGood form
  · have hf : fmtB form = (⟨#[]⟩, false) := by unfold fmtB; rw [hg]; rfl
    rw [hf] at e2
    exact ⟨_, false, Ev.bind h1 (ev_pos rfl e2), fun e => (by cases e), fun t' h => by rw [h.2.1] at hg; cases hg⟩
  · have hf : fmtB form = (textUp form form.length, true) := by unfold fmtB; rw [hg]; rfl
    rw [hf] at e2
    exact ⟨_, true, Ev.bind h1 (ev_pos rfl e2), fun _ => ⟨hv, hg, rfl⟩, fun t' h => ⟨rfl, h.2.2.symm⟩⟩
theorem specFmt_any (form : List Field) (hl : form.length ≤ 5000) (hs : ∀ f ∈ form, Sm4 f) (s : ByteArray) : ∃ b : Bool, Ev (fun k => (spec_l23Good.f k form).bind fun t129 => (if t129 = true then ((spec_l23Lines.f k form).bind fun bt130 => (if bt130.2 = true then (if bt130.1.toList = s.toList then (some (form, true)) else (some ((([] : List Field), false)))) else (some ((([] : List Field), false))))) else (some ((([] : List Field), false))))) (if b = true then (form, true) else ([], false)) ∧ (b = true ↔ Told form s) := by
  have h1 := specForm_ev form (by omega) (fun f hf => sm4_fine (hs f hf))
  cases hv : formB form
  · rw [hv] at h1
    exact ⟨false, Ev.bind h1 (ev_neg (by simp) (ev_now rfl)), ⟨fun e => (by cases e), fun h => by rw [h.1] at hv; cases hv⟩⟩
  rw [hv] at h1
  have V := formOk_of hv hs
  have e2 := specFmt_ev V
  cases hg : allGood form
  · have hf : fmtB form = (⟨#[]⟩, false) := by unfold fmtB; rw [hg]; rfl
    rw [hf] at e2
    exact ⟨false, Ev.bind h1 (ev_pos rfl (Ev.bind e2 (ev_neg (by simp) (ev_now rfl)))), ⟨fun e => (by cases e), fun h => by rw [h.2.1] at hg; cases hg⟩⟩
  · have hf : fmtB form = (textUp form form.length, true) := by unfold fmtB; rw [hg]; rfl
    rw [hf] at e2
    by_cases c : (textUp form form.length).toList = s.toList
    · exact ⟨true, Ev.bind h1 (ev_pos rfl (Ev.bind e2 (ev_pos rfl (ev_pos c (ev_now rfl))))), ⟨fun _ => ⟨hv, hg, (ba_inj c).symm⟩, fun _ => rfl⟩⟩
    · exact ⟨false, Ev.bind h1 (ev_pos rfl (Ev.bind e2 (ev_pos rfl (ev_neg c (ev_now rfl))))), ⟨fun e => (by cases e), fun h => absurd (by rw [h.2.2]) c⟩⟩
theorem flds_len {g : List ByteArray → Field × Bool} (L : List ByteArray) : (L.map (fun l => (g (pieces 32 l)).1)).length = L.length := List.length_map ..
theorem implLoop (s : ByteArray) (M : List ByteArray) (hM : Wds M) : ∃ b : Bool, Ev (fun k => impl_ParseForm.l0 k s ([] : List Field) M (M.length : Int) 0) (if b = true then (fldsI M, true) else ([], false)) ∧ (b = true ↔ ((∀ l ∈ M, (gI (pieces 32 l)).2 = true) ∧ Told (fldsI M) s)) := by
  have hl := hM.1
  have hw : ∀ l ∈ M, Wds (pieces 32 l) := fun l hm => pieces_wds 32 l (hM.2 l hm)
  have hs : ∀ f ∈ fldsI M, Sm4 f := by
    intro f hf
    obtain ⟨l, hm, rfl⟩ := List.mem_map.1 hf
    exact (gI_ev (hw l hm)).2
  have hfl : (fldsI M).length = M.length := flds_len M
  obtain ⟨t, b0, h1, h2, h3⟩ := implFmt_any (fldsI M) (by omega) hs
  have hat : ∀ i (hi : i < M.length), rdOf ByteArray.empty M (i : Int) = M[i] := by
    intro i hi
    unfold rdOf
    rw [Int.toNat_natCast, getD_in hi]
  have h := ev_all (L := fun k (st : List Field) i => impl_ParseForm.l0 k s st M (M.length : Int) i) M.length (fun i => fldsI (M.take i)) (fun i => (gI (pieces 32 (M.getD i ByteArray.empty))).2) (([] : List Field), false) (if b0 = true ∧ t.toList = s.toList then (fldsI M, true) else ([], false)) ?h0 ?h1 ?h2
  case h0 =>
    intro _
    refine Ev.step (fun k => rfl) (ev_neg (by omega) ?_)
    rw [List.take_length]
    refine Ev.bind h1 ?_
    by_cases c1 : b0 = true
    · by_cases c2 : t.toList = s.toList
      · exact ev_cast (ev_pos c1 (ev_pos c2 (ev_now rfl))) (if_pos (And.intro c1 c2)).symm
      · exact ev_cast (ev_pos c1 (ev_neg c2 (ev_now rfl))) (if_neg (fun e : b0 = true ∧ t.toList = s.toList => c2 e.2)).symm
    · exact ev_cast (ev_neg c1 (ev_now rfl)) (if_neg (fun e : b0 = true ∧ t.toList = s.toList => c1 e.1)).symm
  case h1 =>
    intro i hi _ hc y hy
    have hm := List.getElem_mem hi
    have hg := gI_ev (hw _ hm)
    rw [getD_in hi] at hc
    rw [hc] at hg
    have hst : fldsI (M.take (i + 1)) = fldsI (M.take i) ++ [(gI (pieces 32 M[i])).1] := by
      unfold fldsI
      rw [List.take_succ_eq_append_getElem hi, List.map_append]
      rfl
    have hln : (fldsI (M.take i)).length = i := by unfold fldsI; rw [List.length_map, List.length_take]; omega
    refine Ev.step (fun k => rfl) (ev_pos (by omega) (ev_pos (by omega) (ev_pos (by omega) (ev_bind0 (by rw [hat i hi]; exact split_f _ 32 (hM.2 _ hm)) (Ev.bind hg.1 (ev_pos rfl (ev_pos (by rw [hln]; omega) ?_)))))))
    rw [wrap_succ hi (by omega)]
    rw [hst] at hy
    exact hy
  case h2 =>
    intro i hi _ hc
    have hm := List.getElem_mem hi
    have hg := gI_ev (hw _ hm)
    rw [getD_in hi] at hc
    rw [hc] at hg
    exact Ev.step (fun k => rfl) (ev_pos (by omega) (ev_pos (by omega) (ev_pos (by omega) (ev_bind0 (by rw [hat i hi]; exact split_f _ 32 (hM.2 _ hm)) (Ev.bind hg.1 (ev_neg (by simp [tupF]) (ev_now rfl)))))))
  have hall : (List.range M.length).all (fun i => (gI (pieces 32 (M.getD i ByteArray.empty))).2) = true ↔ ∀ l ∈ M, (gI (pieces 32 l)).2 = true := by
    rw [all_range]
    constructor
    · intro h l hm
      obtain ⟨i, hi, rfl⟩ := List.mem_iff_getElem.1 hm
      have := h i hi
      rw [getD_in hi] at this
      exact this
    · intro h i hi
      rw [getD_in hi]
      exact h _ (List.getElem_mem hi)
  by_cases ca : (List.range M.length).all (fun i => (gI (pieces 32 (M.getD i ByteArray.empty))).2) = true
  · rw [if_pos ca] at h
    by_cases cb : b0 = true ∧ t.toList = s.toList
    · rw [if_pos cb] at h
      refine ⟨true, h, ⟨fun _ => ⟨hall.1 ca, ?_⟩, fun _ => rfl⟩⟩
      have := h2 cb.1
      rw [← ba_inj cb.2]
      exact this
    · rw [if_neg cb] at h
      refine ⟨false, h, ⟨fun e => (by cases e), fun e => absurd ?_ cb⟩⟩
      obtain ⟨g1, g2⟩ := h3 s e.2
      exact ⟨g1, by rw [g2]⟩
  · rw [if_neg ca] at h
    exact ⟨false, h, ⟨fun e => (by cases e), fun e => absurd (hall.2 e.1) ca⟩⟩
theorem specLoop (s : ByteArray) (L : List ByteArray) (hL : Wds L) (m : Nat) (hm : L.length = m + 1) : ∃ b : Bool, Ev (fun k => spec_ParseForm.l0 k s ([] : List Field) L 0) (if b = true then (fldsS (L.take m), true) else ([], false)) ∧ (b = true ↔ ((∀ l ∈ L.take m, (gS (pieces 32 l)).2 = true) ∧ Told (fldsS (L.take m)) s)) := by
  have hl := hL.1
  have hw : ∀ l ∈ L, Wds (pieces 32 l) := fun l hm => pieces_wds 32 l (hL.2 l hm)
  have hs : ∀ f ∈ fldsS (L.take m), Sm4 f := by
    intro f hf
    obtain ⟨l, hm, rfl⟩ := List.mem_map.1 hf
    exact (gS_ev (hw l (List.mem_of_mem_take hm))).2
  have htl : (L.take m).length = m := by rw [List.length_take]; omega
  have hfl : (fldsS (L.take m)).length = m := by rw [show (fldsS (L.take m)).length = (L.take m).length from List.length_map ..]; exact htl
  obtain ⟨b0, h1, h2⟩ := specFmt_any (fldsS (L.take m)) (by omega) hs s
  have hat : ∀ i (hi : i < L.length), rdOf ByteArray.empty L (i : Int) = L[i] := by
    intro i hi
    unfold rdOf
    rw [Int.toNat_natCast, getD_in hi]
  have hwr : wrap64 ((L.length : Int) - 1) = (m : Int) := by rw [wrap_id (by omega) (by omega)]; omega
  have h := ev_all (L := fun k (st : List Field) i => spec_ParseForm.l0 k s st L i) m (fun i => fldsS (L.take i)) (fun i => (gS (pieces 32 (L.getD i ByteArray.empty))).2) (([] : List Field), false) (if b0 = true then (fldsS (L.take m), true) else ([], false)) ?h0 ?h1 ?h2
  case h0 =>
    intro _
    exact Ev.step (fun k => rfl) (ev_neg (by rw [hwr]; omega) h1)
  case h1 =>
    intro i hi _ hc y hy
    have hi2 : i < L.length := by omega
    have hmem := List.getElem_mem hi2
    have hg := gS_ev (hw _ hmem)
    rw [getD_in hi2] at hc
    rw [hc] at hg
    have hst : fldsS (L.take (i + 1)) = fldsS (L.take i) ++ [(gS (pieces 32 L[i])).1] := by
      unfold fldsS
      rw [List.take_succ_eq_append_getElem hi2, List.map_append]
      rfl
    have hln : (fldsS (L.take i)).length = i := by unfold fldsS; rw [List.length_map, List.length_take]; omega
    refine Ev.step (fun k => rfl) (ev_pos (by rw [hwr]; omega) (ev_pos (by omega) (ev_pos (by omega) (Ev.bind (by rw [hat i hi2]; exact spec_split _ 32 32 rfl (hL.2 _ hmem)) (Ev.bind hg.1 (ev_pos rfl (ev_pos (by rw [hln]; omega) ?_)))))))
    rw [wrap_succ hi2 (by omega)]
    rw [hst] at hy
    exact hy
  case h2 =>
    intro i hi _ hc
    have hi2 : i < L.length := by omega
    have hmem := List.getElem_mem hi2
    have hg := gS_ev (hw _ hmem)
    rw [getD_in hi2] at hc
    rw [hc] at hg
    exact Ev.step (fun k => rfl) (ev_pos (by rw [hwr]; omega) (ev_pos (by omega) (ev_pos (by omega) (Ev.bind (by rw [hat i hi2]; exact spec_split _ 32 32 rfl (hL.2 _ hmem)) (Ev.bind hg.1 (ev_neg (by simp [tupF]) (ev_now rfl)))))))
  have hall : (List.range m).all (fun i => (gS (pieces 32 (L.getD i ByteArray.empty))).2) = true ↔ ∀ l ∈ L.take m, (gS (pieces 32 l)).2 = true := by
    rw [all_range]
    constructor
    · intro h l hmem
      obtain ⟨i, hi, rfl⟩ := List.mem_iff_getElem.1 hmem
      have := h i (by omega)
      rw [getD_in (by omega)] at this
      rw [List.getElem_take]
      exact this
    · intro h i hi
      rw [getD_in (by omega)]
      have : L[i]'(by omega) = (L.take m)[i]'(by omega) := by rw [List.getElem_take]
      rw [this]
      exact h _ (List.getElem_mem _)
  by_cases ca : (List.range m).all (fun i => (gS (pieces 32 (L.getD i ByteArray.empty))).2) = true
  · rw [if_pos ca] at h
    exact ⟨b0, h, ⟨fun e => ⟨hall.1 ca, h2.1 e⟩, fun e => h2.2 e.2⟩⟩
  · rw [if_neg ca] at h
    exact ⟨false, h, ⟨fun e => (by cases e), fun e => absurd (hall.2 e.1) ca⟩⟩
theorem told_reads {form : List Field} {s : ByteArray} (h : Told form s) : pieces 10 s = linesUp form form.length ++ [mkB []] ∧ form.length ≤ 10 ∧ (Wds (pieces 10 s) → fldsI (linesUp form form.length) = form ∧ fldsS (linesUp form form.length) = form ∧ (∀ l ∈ linesUp form form.length, (gI (pieces 32 l)).2 = true ∧ (gS (pieces 32 l)).2 = true)) := by
  obtain ⟨h1, h2, rfl⟩ := h
  have hb := h1
  unfold formB at hb
  rw [Bool.and_eq_true, decide_eq_true_eq, all_range] at hb
  have htl := text_lines h1
  refine ⟨htl, by omega, fun hw => ?_⟩
  unfold allGood at h2
  rw [all_range] at h2
  have hlen := linesUp_len form form.length
  have hone : ∀ i, i < form.length → gI (pieces 32 (lineB (form.getD i zF))) = (form.getD i zF, true) ∧ gS (pieces 32 (lineB (form.getD i zF))) = (form.getD i zF, true) := by
    intro i hi
    have hmem : lineB (form.getD i zF) ∈ linesUp form form.length := by
      rw [← linesUp_get form form.length i hi]
      rw [getD_in (by omega)]
      exact List.getElem_mem _
    have hwl : Wds (pieces 32 (lineB (form.getD i zF))) := by
      refine pieces_wds 32 _ (hw.2 _ ?_)
      have : pieces 10 (textUp form form.length) = linesUp form form.length ++ [mkB []] := htl
      rw [this]
      exact List.mem_append_left _ hmem
    have hlw : pieces 32 (lineB (form.getD i zF)) = (form.getD i zF).f0 :: (kindW (form.getD i zF) ++ (needW (form.getD i zF).f5 ++ ifW (form.getD i zF).f6)) := line_words h1 hi
    have hk : kindOk (form.getD i zF) = true := by
      have := hb.2 i hi
      unfold fieldB at this
      rw [Bool.and_eq_true] at this
      exact this.2
    have hbad : badF (form.getD i zF) = false := by simpa using h2 i hi
    have e1 := ev_unique (gI_ev hwl).1 (implOwn _ hk hbad _ hlw)
    have e2 := ev_unique (gS_ev hwl).1 (specOwn _ hk hbad _ hlw)
    obtain ⟨a1, a2⟩ := tupF_inj e1
    obtain ⟨a3, a4⟩ := tupF_inj e2
    exact ⟨Prod.ext a1 a2, Prod.ext a3 a4⟩
  have hgen : ∀ (g : List ByteArray → Field × Bool), (∀ i, i < form.length → g (pieces 32 (lineB (form.getD i zF))) = (form.getD i zF, true)) → (linesUp form form.length).map (fun l => (g (pieces 32 l)).1) = form := by
    intro g hg
    apply List.ext_getElem
    · rw [List.length_map]; exact hlen
    · intro i h3 h4
      rw [List.getElem_map]
      have := linesUp_get form form.length i h4
      rw [getD_in (by omega)] at this
      rw [this, hg i h4, getD_in h4]
  refine ⟨hgen gI (fun i hi => (hone i hi).1), hgen gS (fun i hi => (hone i hi).2), fun l hl => ?_⟩
  obtain ⟨i, hi, rfl⟩ := linesUp_mem form form.length l hl
  rw [(hone i hi).1, (hone i hi).2]
  exact ⟨rfl, rfl⟩
theorem parse_both (s : ByteArray) (hs0 : s.size ≤ 1048576) : ∃ (form : List Field) (b : Bool), form.length ≤ 10 ∧ (∀ f ∈ form, fine f ∧ f.f4.length ≤ 6) ∧ Ev (fun k => spec_ParseForm.f k s) (form, b) ∧ Ev (fun k => impl_ParseForm.f k s) (form, b) := by
  have hj : ∀ (L : List ByteArray) (x : Bool), x = true → Ev (fun k => spec_ParseForm.j0 k s ([] : List Field) L x) (([] : List Field), false) := fun L x hx => Ev.step (fun k => rfl) (ev_pos hx (ev_now rfl))
  by_cases hs : s.size ≤ 4000
  case neg =>
    refine ⟨[], false, by simp, by simp, ?_, ev_pos (by omega) (ev_now rfl)⟩
    exact ev_some (Ev.bind (l1Split_ev s 10 (by omega) 10 rfl) (ev_pos (by omega) (hj _ true rfl)))
  have hW := pieces_wds 10 s hs
  have hn := pieces_ne 10 s
  obtain ⟨m, hm⟩ : ∃ m, (pieces 10 s).length = m + 1 := ⟨(pieces 10 s).length - 1, by omega⟩
  have hml := hW.1
  have hwr : wrap64 (((pieces 10 s).length : Int) - 1) = (m : Int) := by rw [wrap_id (by omega) (by omega)]; omega
  have hWt : Wds ((pieces 10 s).take m) := ⟨by rw [List.length_take]; omega, fun w hw => hW.2 w (List.mem_of_mem_take hw)⟩
  have htl : ((pieces 10 s).take m).length = m := by rw [List.length_take]; omega
  obtain ⟨b1, i1, i2⟩ := implLoop s ((pieces 10 s).take m) hWt
  obtain ⟨b2, s1, s2⟩ := specLoop s (pieces 10 s) hW m hm
  have himpl : Ev (fun k => impl_ParseForm.f k s) (if b1 = true then (fldsI ((pieces 10 s).take m), true) else ([], false)) := by
    refine ev_neg (by omega) (ev_bind0 (split_f s 10 hs) (ev_pos (by rw [hwr]; omega) (ev_pos (by rw [hwr]; omega) (ev_some ?_))))
    rw [hwr, Int.toNat_natCast]
    exact i1
  have hsplit := spec_split s 10 10 rfl hs
  have hspec : ∀ r, (((rdOf ByteArray.empty (pieces 10 s) (m : Int)).toList = ([] : List UInt8) ∧ (pieces 10 s).length ≤ 11) → r = (if b2 = true then (fldsS ((pieces 10 s).take m), true) else (([] : List Field), false))) → (¬ ((rdOf ByteArray.empty (pieces 10 s) (m : Int)).toList = ([] : List UInt8) ∧ (pieces 10 s).length ≤ 11) → r = (([] : List Field), false)) → Ev (fun k => spec_ParseForm.f k s) r := by
    intro r hr1 hr2
    refine ev_some (Ev.bind hsplit (ev_neg (by omega) (ev_pos (by rw [hwr]; omega) (ev_pos (by rw [hwr]; omega) ?_))))
    rw [hwr]
    by_cases c1 : (rdOf ByteArray.empty (pieces 10 s) (m : Int)).toList = ([] : List UInt8)
    · refine ev_pos c1 ?_
      by_cases c2 : (pieces 10 s).length ≤ 11
      · rw [hr1 ⟨c1, c2⟩]
        exact Ev.step (fun k => rfl) (ev_neg (by simp; omega) s1)
      · rw [hr2 (fun e => c2 e.2)]
        exact Ev.step (fun k => rfl) (ev_pos (by simp; omega) (ev_now rfl))
    · rw [hr2 (fun e => c1 e.1)]
      exact ev_neg c1 (hj _ true rfl)
  by_cases hT : ∃ form, Told form s
  · obtain ⟨form, hF⟩ := hT
    obtain ⟨p1, p2, p3⟩ := told_reads hF
    obtain ⟨q1, q2, q3⟩ := p3 hW
    have hfl := linesUp_len form form.length
    have hmm : m = form.length := by
      have := congrArg List.length p1
      rw [List.length_append, List.length_singleton, hfl] at this
      omega
    have htk : (pieces 10 s).take m = linesUp form form.length := by
      rw [p1, List.take_append_of_le_length (by omega), List.take_of_length_le (by omega)]
    rw [htk] at i1 i2 s1 s2 himpl hspec
    rw [q1] at i2 himpl
    rw [q2] at s2 hspec
    have hb1 : b1 = true := i2.2 ⟨fun l hl => (q3 l hl).1, hF⟩
    have hb2 : b2 = true := s2.2 ⟨fun l hl => (q3 l hl).2, hF⟩
    rw [hb1] at himpl
    rw [hb2] at hspec
    have hsm : ∀ f ∈ form, Sm4 f := by
      intro f hf
      rw [← q1] at hf
      obtain ⟨l, hl, rfl⟩ := List.mem_map.1 hf
      have : l ∈ pieces 10 s := by rw [p1]; exact List.mem_append_left _ hl
      exact (gI_ev (pieces_wds 32 l (hW.2 l this))).2
    have V := formOk_of hF.1 hsm
    refine ⟨form, true, p2, fun f hf => ?_, hspec _ (fun _ => rfl) (fun e => absurd ?_ e), himpl⟩
    · obtain ⟨i, hi, rfl⟩ := List.mem_iff_getElem.1 hf
      have := V.small i hi
      rw [getD_in hi] at this
      exact ⟨sm4_fine (hsm _ hf), this.2.1⟩
    · refine ⟨?_, by omega⟩
      unfold rdOf
      rw [Int.toNat_natCast, p1, List.getD_eq_getElem?_getD, List.getElem?_append_right (by omega), hfl, hmm, Nat.sub_self]
      exact t0
  · have hb1 : ¬ b1 = true := fun e => hT ⟨_, (i2.1 e).2⟩
    have hb2 : ¬ b2 = true := fun e => hT ⟨_, (s2.1 e).2⟩
    rw [if_neg hb1] at himpl
    rw [if_neg hb2] at hspec
    exact ⟨[], false, by simp, by simp, hspec _ (fun _ => rfl) (fun _ => rfl), himpl⟩
end Go.Proofs.YtcjloeeomhiblaaDoor.X
set_option linter.unusedVariables false
set_option linter.unusedSimpArgs false
namespace Go.Proofs.YtcjloeeomhiblaaDoor.X
open Go.RowKit Go.Proofs.YtcjloeeomhiblaaDoorW.PrintWords Go.Proofs.YtcjloeeomhiblaaDoor.E
theorem markLoop : ∀ (n : Nat) (x : Int) (s : ByteArray), x.toNat = n → 0 ≤ x → s.size + n ≤ 4611686018427387905 → ∃ r, Ev (fun k => laws_markText.l0 k x s) r := by
  intro n
  induction n using Nat.strongRecOn with
  | _ n ih =>
    intro x s hn h0 hb
    by_cases c : x > 0
    · have hs : (strOfNums [(wrap64 (48 + (Int.tmod x 10))) % 256]).size = 1 := by rw [strOfNums_size]; rfl
      have hd : wrap64 (Int.tdiv x 10) = x / 10 := by rw [Int.tdiv_eq_ediv_of_nonneg h0, wrap_id (by omega) (by omega)]
      obtain ⟨r, h⟩ := ih (x / 10).toNat (by omega) (x / 10) (strOfNums [(wrap64 (48 + (Int.tmod x 10))) % 256] ++ s) rfl (by omega) (by rw [ByteArray.size_append, hs]; omega)
      refine ⟨r, Ev.step (fun k => rfl) (ev_pos c (ev_some (ev_pos (by rw [hs]; omega) ?_)))⟩
      rw [hd]
      exact h
    · exact ⟨_, Ev.step (fun k => rfl) (ev_neg c (ev_pos (by omega) (ev_now rfl)))⟩
theorem mark_ex (q : Int) (h : q ≤ 4611686018427387905) : ∃ r, Ev (fun k => laws_markText.f k q) r := by
  unfold laws_markText.f
  by_cases c : q ≤ 0
  · exact ⟨_, ev_pos c (ev_now rfl)⟩
  · obtain ⟨r, h⟩ := markLoop q.toNat q (⟨#[]⟩ : ByteArray) rfl (by omega) (by rw [show (⟨#[]⟩ : ByteArray).size = 0 from rfl]; omega)
    exact ⟨r, ev_neg c h⟩
open Classical in
noncomputable def mt (q : Int) : ByteArray := if h : ∃ r, Ev (fun k => laws_markText.f k q) r then Classical.choose h else (⟨#[]⟩ : ByteArray)
theorem mt_ev (q : Int) (h : q ≤ 4611686018427387905) : Ev (fun k => laws_markText.f k q) (mt q) := by
  unfold mt
  rw [dif_pos (mark_ex q h)]
  exact Classical.choose_spec (mark_ex q h)
end Go.Proofs.YtcjloeeomhiblaaDoor.X
set_option linter.unusedVariables false
set_option linter.unusedSimpArgs false
namespace Go.Proofs.YtcjloeeomhiblaaDoor.X
open Go.RowKit Go.Proofs.YtcjloeeomhiblaaDoorW.PrintWords Go.Proofs.YtcjloeeomhiblaaDoor.E
noncomputable def mkS (q : Int) (_ : ByteArray) : ByteArray := mt q
theorem sum1 {α : Type} (L : List α) : (L.map (fun _ => 1)).sum = L.length := by
  induction L with
  | nil => rfl
  | cons e L ih => rw [List.map_cons, List.sum_cons, ih, List.length_cons]; omega
theorem markStr (L : List ByteArray) (q : Int) (h0 : 0 ≤ q) (hq : q + L.length ≤ 4611686018427387904) : Ev (fun k => laws_markStringS.f k L q) (q + (L.length : Nat), markAll mkS (fun _ => 1) q L) := by
  have h := ev_mark (L := fun k l q i => laws_markStringS.l0 k l q i) L mkS (fun _ => 1) (fun out q ho => Ev.step (fun k => rfl) (ev_neg (by omega) (ev_now rfl))) ?hs q h0 (by rw [sum1]; omega)
  case hs =>
    intro out q i x y hi ho hx hxm hg h0 hb h
    have hw1 : wrap64 (q + 1) = q + (1 : Nat) := by rw [wrap_id (by omega) (by omega)]; omega
    refine Ev.step (fun k => rfl) (ev_pos (by omega) (Ev.bind (mt_ev q (by omega)) (ev_pos (by omega) ?_)))
    rw [hw1, wrap_succ hi (by omega), Int.toNat_natCast]
    exact h
  rw [sum1] at h
  exact h
end Go.Proofs.YtcjloeeomhiblaaDoor.X
set_option linter.unusedVariables false
set_option linter.unusedSimpArgs false
namespace Go.Proofs.YtcjloeeomhiblaaDoor.X
open Go.RowKit Go.Proofs.YtcjloeeomhiblaaDoorW.PrintWords Go.Proofs.YtcjloeeomhiblaaDoor.E
noncomputable def mkF (q : Int) (x : S31) : S31 := ⟨mt q, q + 1, q + 2, q + 3, markAll mkS (fun _ => 1) (q + 4) x.f4, (Int.tmod (q + 4 + x.f4.length) 3 == 0), mt (q + 5 + x.f4.length)⟩
def wF (x : S31) : Nat := 6 + x.f4.length
theorem wF_len (L : List S31) : L.length ≤ (L.map wF).sum := by
  induction L with
  | nil => exact Nat.le_refl _
  | cons e L ih => rw [List.map_cons, List.sum_cons, List.length_cons]; unfold wF at *; omega
theorem markField (L : List S31) (q : Int) (h0 : 0 ≤ q) (hq : q + (((L.map wF).sum : Nat) : Int) ≤ 4611686018427387904) : Ev (fun k => laws_markFieldS.f k L q) (q + (((L.map wF).sum : Nat) : Int), markAll mkF wF q L) := by
  refine ev_mark (L := fun k l q i => laws_markFieldS.l0 k l q i) L mkF wF (fun out q ho => Ev.step (fun k => rfl) (ev_neg (by omega) (ev_now rfl))) ?hs q h0 (by omega)
  case hs =>
    intro out q i x y hi ho hx hxm hg h0 hb h
    have hc : (wF x : Int) = 6 + (x.f4.length : Int) := by unfold wF; omega
    have hle : wF x ≤ (L.map wF).sum := le_sum hxm
    have hll := wF_len L
    have e1 : wrap64 (q + 1) = q + 1 := wrap_id (by omega) (by omega)
    have e2 : wrap64 (q + 1 + 1) = q + 2 := by rw [wrap_id (by omega) (by omega)]; omega
    have e3 : wrap64 (q + 2 + 1) = q + 3 := by rw [wrap_id (by omega) (by omega)]; omega
    have e4 : wrap64 (q + 3 + 1) = q + 4 := by rw [wrap_id (by omega) (by omega)]; omega
    have hrd : rd_T31 out (i : Int) = x := by unfold rd_T31; rw [Int.toNat_natCast]; exact hg _
    refine Ev.step (fun k => rfl) (ev_pos (by omega) (ev_pos (by omega) (Ev.bind (mt_ev q (by omega)) ?_)))
    simp only [e1, e2, e3, e4, hrd]
    have e5 : wrap64 (q + 4 + ((x.f4.length : Nat) : Int) + 1) = q + 5 + (x.f4.length : Int) := by rw [wrap_id (by omega) (by omega)]; omega
    have e6 : wrap64 (q + 5 + (x.f4.length : Int) + 1) = q + (wF x : Int) := by rw [wrap_id (by omega) (by omega)]; omega
    refine Ev.bind (markStr x.f4 (q + 4) (by omega) (by omega)) ?_
    simp only [e5, e6]
    refine Ev.bind (mt_ev _ (by omega)) ?_
    rw [wrap_succ hi (by omega), Int.toNat_natCast]
    exact h
end Go.Proofs.YtcjloeeomhiblaaDoor.X
set_option linter.unusedVariables false
set_option linter.unusedSimpArgs false
namespace Go.Proofs.YtcjloeeomhiblaaDoor.X
open Go.RowKit Go.Proofs.YtcjloeeomhiblaaDoorW.PrintWords Go.Proofs.YtcjloeeomhiblaaDoor.E
theorem heldStr (L : List ByteArray) (q0 : Int) (h0 : 0 ≤ q0) (hq : q0 + L.length ≤ 4611686018427387904) : Ev (fun k => laws_heldStringS.f k (markAll mkS (fun _ => 1) q0 L) q0) (q0 + (L.length : Nat)) := by
  have hlen := markAll_length mkS (fun _ => 1) L q0
  have h := ev_held (H := fun k q i => laws_heldStringS.l0 k (markAll mkS (fun _ => 1) q0 L) q i) L (markAll mkS (fun _ => 1) q0 L) mkS (fun _ => 1) q0 rfl (fun q => Ev.step (fun k => rfl) (ev_neg (by omega) (ev_now rfl))) ?hs h0 (by rw [sum1]; omega)
  case hs =>
    intro q i x y hi hxm hx hg h0 hb h
    have hw1 : wrap64 (q + 1) = q + (1 : Nat) := by rw [wrap_id (by omega) (by omega)]; omega
    have hr : rdOf ByteArray.empty (markAll mkS (fun _ => 1) q0 L) (i : Int) = mkS q x := by unfold rdOf; rw [Int.toNat_natCast]; exact hg _
    refine Ev.step (fun k => rfl) (ev_pos (by omega) (ev_pos (by omega) (Ev.bind (mt_ev q (by omega)) ?_)))
    rw [hr, hw1, wrap_succ hi (by omega)]
    exact ev_pos rfl h
  rw [sum1] at h
  exact h
end Go.Proofs.YtcjloeeomhiblaaDoor.X
set_option linter.unusedVariables false
set_option linter.unusedSimpArgs false
namespace Go.Proofs.YtcjloeeomhiblaaDoor.X
open Go.RowKit Go.Proofs.YtcjloeeomhiblaaDoorW.PrintWords Go.Proofs.YtcjloeeomhiblaaDoor.E
theorem heldField (L : List S31) (q0 : Int) (h0 : 0 ≤ q0) (hq : q0 + (((L.map wF).sum : Nat) : Int) ≤ 4611686018427387904) : Ev (fun k => laws_heldFieldS.f k (markAll mkF wF q0 L) q0) (q0 + (((L.map wF).sum : Nat) : Int)) := by
  have hlen := markAll_length mkF wF L q0
  refine ev_held (H := fun k q i => laws_heldFieldS.l0 k (markAll mkF wF q0 L) q i) L (markAll mkF wF q0 L) mkF wF q0 rfl (fun q => Ev.step (fun k => rfl) (ev_neg (by omega) (ev_now rfl))) ?hs h0 (by omega)
  case hs =>
    intro q i x y hi hxm hx hg h0 hb h
    have hc : (wF x : Int) = 6 + (x.f4.length : Int) := by unfold wF; omega
    have hle : wF x ≤ (L.map wF).sum := le_sum hxm
    have hll := wF_len L
    have e1 : wrap64 (q + 1) = q + 1 := wrap_id (by omega) (by omega)
    have e2 : wrap64 (q + 1 + 1) = q + 2 := by rw [wrap_id (by omega) (by omega)]; omega
    have e3 : wrap64 (q + 2 + 1) = q + 3 := by rw [wrap_id (by omega) (by omega)]; omega
    have e4 : wrap64 (q + 3 + 1) = q + 4 := by rw [wrap_id (by omega) (by omega)]; omega
    have hrd : rd_T31 (markAll mkF wF q0 L) (i : Int) = mkF q x := by unfold rd_T31; rw [Int.toNat_natCast]; exact hg _
    have e5 : wrap64 (q + 4 + ((x.f4.length : Nat) : Int) + 1) = q + 5 + (x.f4.length : Int) := by rw [wrap_id (by omega) (by omega)]; omega
    have e6 : wrap64 (q + 5 + (x.f4.length : Int) + 1) = q + (wF x : Int) := by rw [wrap_id (by omega) (by omega)]; omega
    refine Ev.step (fun k => rfl) (ev_pos (by omega) (ev_pos (by omega) (Ev.bind (mt_ev q (by omega)) ?_)))
    simp only [e1, e2, e3, e4, hrd]
    refine ev_pos rfl (ev_pos rfl (ev_pos rfl (ev_pos rfl (Ev.bind (heldStr x.f4 (q + 4) (by omega) (by omega)) (ev_neg (by omega) ?_)))))
    simp only [e5, e6]
    refine ev_neg (by simp [mkF]) (Ev.bind (mt_ev _ (by omega)) (ev_pos rfl ?_))
    rw [wrap_succ hi (by omega)]
    exact h
end Go.Proofs.YtcjloeeomhiblaaDoor.X
set_option linter.unusedVariables false
namespace Go.Proofs.YtcjloeeomhiblaaDoor.X
open Go.RowKit Go.Proofs.YtcjloeeomhiblaaDoorW.PrintWords Go.Proofs.YtcjloeeomhiblaaDoor.E

end Go.Proofs.YtcjloeeomhiblaaDoor.X
set_option linter.unusedVariables false
namespace Go.Proofs.YtcjloeeomhiblaaDoor.X
open Go.RowKit Go.Proofs.YtcjloeeomhiblaaDoorW.PrintWords Go.Proofs.YtcjloeeomhiblaaDoor.E
theorem laws_eqStringS_ev (x : List (ByteArray)) (hl0 : x.length ≤ 9223372036854775807) : Ev (fun k => laws_eqStringS.f k x x) true := by
  unfold laws_eqStringS.f
  refine ev_pos rfl ?_
  refine ev_same (L := fun k i => laws_eqStringS.l0 k x x i) x.length (Ev.step (fun k => rfl) (ev_neg (by omega) (ev_now rfl))) ?_
  intro i hi hk
  refine Ev.step (fun k => rfl) (ev_pos (by omega) (ev_pos (by omega) (ev_pos (by omega) ?_)))
  refine ev_pos rfl ?_
  rw [wrap_succ hi (by omega)]
  exact hk
end Go.Proofs.YtcjloeeomhiblaaDoor.X
set_option linter.unusedVariables false
namespace Go.Proofs.YtcjloeeomhiblaaDoor.X
open Go.RowKit Go.Proofs.YtcjloeeomhiblaaDoorW.PrintWords Go.Proofs.YtcjloeeomhiblaaDoor.E
theorem laws_eqField_ev (x : S31) (hl0 : x.f4.length ≤ 9223372036854775807) : Ev (fun k => laws_eqField.f k (x.f0) (x.f1) (x.f2) (x.f3) (x.f4) (x.f5) (x.f6) (x.f0) (x.f1) (x.f2) (x.f3) (x.f4) (x.f5) (x.f6)) true := by
  unfold laws_eqField.f
  repeat' (first | exact ev_now rfl | refine ev_pos rfl ?_ | refine ev_neg (by simp) ?_ | refine Ev.bind (laws_eqStringS_ev _ (by assumption)) ?_)
end Go.Proofs.YtcjloeeomhiblaaDoor.X
set_option linter.unusedVariables false
namespace Go.Proofs.YtcjloeeomhiblaaDoor.X
open Go.RowKit Go.Proofs.YtcjloeeomhiblaaDoorW.PrintWords Go.Proofs.YtcjloeeomhiblaaDoor.E
theorem laws_eqFieldS_ev (x : List (S31)) (hl0 : x.length ≤ 9223372036854775807) (hl1 : ∀ y ∈ x, (y.f4.length ≤ 9223372036854775807)) : Ev (fun k => laws_eqFieldS.f k x x) true := by
  unfold laws_eqFieldS.f
  refine ev_pos rfl ?_
  refine ev_same (L := fun k i => laws_eqFieldS.l0 k x x i) x.length (Ev.step (fun k => rfl) (ev_neg (by omega) (ev_now rfl))) ?_
  intro i hi hk
  refine Ev.step (fun k => rfl) (ev_pos (by omega) (ev_pos (by omega) (ev_pos (by omega) ?_)))
  have hy := hl1 _ (List.getElem_mem hi)
  have hr : rd_T31 x (i : Int) = x[i] := by simp [rd_T31, List.getD_eq_getElem?_getD, List.getElem?_eq_getElem hi]
  rw [hr]
  refine Ev.bind (laws_eqField_ev _ (by first | exact hy | exact hy)) ?_
  refine ev_pos rfl ?_
  rw [wrap_succ hi (by omega)]
  exact hk
end Go.Proofs.YtcjloeeomhiblaaDoor.X
set_option linter.unusedVariables false
set_option linter.unusedSimpArgs false
namespace Go.Proofs.YtcjloeeomhiblaaDoor.Pure
open Go.RowKit Go.Proofs.YtcjloeeomhiblaaDoor.X Go.Proofs.YtcjloeeomhiblaaDoorW.PrintWords Go.Proofs.YtcjloeeomhiblaaDoor.E
theorem wF_few : ∀ (l : List X.Field), (∀ f ∈ l, f.f4.length ≤ 6) → (l.map wF).sum ≤ 12 * l.length
  | [], _ => by simp
  | f :: l, h => by
    have h1 := wF_few l (fun g hg => h g (List.mem_cons_of_mem _ hg))
    have h2 := h f List.mem_cons_self
    rw [List.map_cons, List.sum_cons, List.length_cons]
    unfold wF at *
    omega
theorem FnExactParseForm : PureFnExactParseForm := by
  intro s hs
  unfold laws_FnExactParseForm.f
  apply ev_get
  by_cases c : (s.size : Int) > 1048576
  · exact ev_pos c (ev_now rfl)
  refine ev_neg c ?_
  obtain ⟨form, b, hl, hf, g1, g2⟩ := parse_both s (by omega)
  have hsum := wF_few form (fun f hm => (hf f hm).2)
  have heq := laws_eqFieldS_ev form (by omega) (fun f hm => (hf f hm).1.2.1)
  have hm := markField form 1 (by omega) (by omega)
  have hh := heldField form 1 (by omega) (by omega)
  refine Ev.bind g1 (Ev.bind g2 (Ev.bind heq (ev_pos rfl (ev_pos rfl (Ev.bind hm (Ev.bind hh (ev_pos (by omega) (ev_pos rfl ?_))))))))
  exact Ev.bind g2 (Ev.bind heq (ev_pos rfl (ev_pos rfl (Ev.bind hh (ev_pos (by omega) (ev_pos rfl (ev_now rfl)))))))
end Go.Proofs.YtcjloeeomhiblaaDoor.Pure
namespace Go.Proofs.YtcjloeeomhiblaaDoor.fnExactParseForm
open Go.ChangeShapes Go.WideShapes Go.ChangeAt Go.RowKit Go.Joins Go.Proofs.YtcjloeeomhiblaaDoorW.PrintWords Go.Proofs.YtcjloeeomhiblaaDoor.Open Go.Proofs.YtcjloeeomhiblaaDoor.X
open Go.ChangeMaps (open_string shut_string)
set_option linter.unusedVariables false
theorem own : ownKnob Tryd.prog.godebug = none := by kernel_rfl
def laid : List (String × DataW Unit) := [("math/bits.deBruijn32tab", Rows.laid_math_bits_deBruijn32tab), ("math/bits.deBruijn64tab", Rows.laid_math_bits_deBruijn64tab), ("internal/strconv.uint64pow10", Rows.laid_internal_strconv_uint64pow10), ("unicode/utf8.acceptRanges", Rows.laid_unicode_utf8_acceptRanges), ("strconv.ErrRange", Rows.laid_strconv_ErrRange), ("strconv.ErrSyntax", Rows.laid_strconv_ErrSyntax), ("unicode/utf8.first", Rows.laid_unicode_utf8_first)]
theorem door_met (os : Os) (args : Array Value) : laidMetH Tryd.prog laid ((World.laidAll Tryd.prog os laid).forCall (fun _ _ => 0) ⟨#[], args, []⟩).memory := by
  rw [MakeChecks.laidMetH_plain _ _ _ (by kernel_rfl)]; exact laidMet_laidAll _ (by kernel_rfl) (by kernel_rfl)
theorem gTab : Tryd.prog.globalNamed "internal/strconv.uint64pow10" = some 5 := by kernel_rfl
theorem gTabType : (Tryd.prog.globals[5]?).map (·.type) = some 111 := by kernel_rfl
theorem cellsT : Tryd.prog.cellsOf 111 = 20 := by kernel_rfl
theorem cellsE : Tryd.prog.cellsOf 91 = 1 := by kernel_rfl
theorem only : laid.filter (fun x => x.1 == "internal/strconv.uint64pow10") = [("internal/strconv.uint64pow10", Lib.tabData .u64 Lib.pow10Tab)] := by kernel_rfl
theorem tableT {W : World} (h : laidMetH Tryd.prog laid W) : GT W := by
  have h2 := h.filter (fun x => x.1 == "internal/strconv.uint64pow10")
  rw [only] at h2
  rw [MakeChecks.laidMetH_plain _ _ _ (by kernel_rfl)] at h2
  exact Lib.tabIs_of_head (rest := []) gTab gTabType Tryd.underlying111 Tryd.underlying91 cellsE cellsT h2
theorem star : "*" ++ "errors.errorString" = "*errors.errorString" := by decide
theorem rowE (u : TypeId) (h : Tryd.prog.typeName? 3 u = some "*errors.errorString") : u = 107 := typeName_ptr_named (nm := "errors.errorString") (by rw [star]; kernel_rfl) (by kernel_rfl) (by decide) u (by rw [star]; exact h)
theorem gErrSyntax : Tryd.prog.globalNamed "strconv.ErrSyntax" = some 3 := by kernel_rfl
theorem onlyErrSyntax : laid.filter (fun x => x.1 == "strconv.ErrSyntax") = [("strconv.ErrSyntax", Rows.laid_strconv_ErrSyntax)] := by kernel_rfl
theorem cellErrSyntax {W : World} (h : laidMetH Tryd.prog laid W) : ∃ t v, W.cell? ⟨3, 0, none⟩ = some (.iface t v) := by
  have h2 := h.filter (fun x => x.1 == "strconv.ErrSyntax")
  rw [onlyErrSyntax] at h2
  rw [MakeChecks.laidMetH_plain _ _ _ (by kernel_rfl)] at h2
  unfold Rows.laid_strconv_ErrSyntax at h2
  obtain ⟨a, s, hv, _, _, _⟩ := laid_sentinel h2 gErrSyntax (by kernel_rfl : (Tryd.prog.globals[3]?).map (·.type) = some 56) Tryd.underlying56 rowE Tryd.underlying107 Tryd.underlying109 rfl rfl Tryd.underlying9 (by kernel_rfl : Tryd.prog.cellsOf 109 = 1) (by kernel_rfl : Tryd.prog.cellsOf 9 = 1)
  exact ⟨_, _, World.var?_cell gErrSyntax hv 0⟩
theorem gErrRange : Tryd.prog.globalNamed "strconv.ErrRange" = some 4 := by kernel_rfl
theorem onlyErrRange : laid.filter (fun x => x.1 == "strconv.ErrRange") = [("strconv.ErrRange", Rows.laid_strconv_ErrRange)] := by kernel_rfl
theorem cellErrRange {W : World} (h : laidMetH Tryd.prog laid W) : ∃ t v, W.cell? ⟨4, 0, none⟩ = some (.iface t v) := by
  have h2 := h.filter (fun x => x.1 == "strconv.ErrRange")
  rw [onlyErrRange] at h2
  rw [MakeChecks.laidMetH_plain _ _ _ (by kernel_rfl)] at h2
  unfold Rows.laid_strconv_ErrRange at h2
  obtain ⟨a, s, hv, _, _, _⟩ := laid_sentinel h2 gErrRange (by kernel_rfl : (Tryd.prog.globals[4]?).map (·.type) = some 56) Tryd.underlying56 rowE Tryd.underlying107 Tryd.underlying109 rfl rfl Tryd.underlying9 (by kernel_rfl : Tryd.prog.cellsOf 109 = 1) (by kernel_rfl : Tryd.prog.cellsOf 9 = 1)
  exact ⟨_, _, World.var?_cell gErrRange hv 0⟩
theorem table {W : World} (h : laidMetH Tryd.prog laid W) (hsh : W.ShapedOpen Tryd.prog) : GE W := ⟨tableT h, cellErrSyntax h, cellErrRange h, Tryd.laysM146.s1_3 W hsh⟩
/-- The wrap of a row with a condition on the world, the world's shape kept for the walk. -/
theorem ret_and_shaped {H : Type} {enc : TypeId × Value → H} {a : Assume} {C : Checked} {os : Os} {f : FuncId} {fn : Func} {s : ChangeSpec} {conds : List PathCond} {apart fresh handsOn again : Bool} {X : World → Array Value → Prop}
    (hX : ∀ (w w' : World) (args : Array Value), w.heap = w'.heap → X w args → X w' args)
    (own : ownKnob C.prog.godebug = none) (started : os.Started) (noInit : C.prog.inits.idxOf? f = none) (hfn : C.prog.funcs[f]? = some fn)
    (witness : ∃ (w : World) (tape : Tape) (i : Input), w.os = os ∧ (w.forCall tape i).Shaped C.prog ∧ i.vars = [] ∧ Input.okWide C.prog (w.forCall tape i) .any w.heap.size f i ∧
      ((s.pre enc C.prog fn conds apart (w.forCall tape i).memory i.args ∧ X (w.forCall tape i).memory i.args) ∧ sizedMet enc C.prog fn (OpenSpec.ofChange s) apart (w.forCall tape i).memory i.args) ∧ a.holds C.prog (lone (Frame.enter C.prog f i.args .normal) [] (w.forCall tape i)))
    (contract : ∀ (W : World) (base : Nat) (args : Array Value) (ds gs : List (DataW H)) (before : List MemPlace),
      (∀ (j : Nat) t v, fn.params[j]? = some t → args[j]? = some v → Value.okWide C.prog W .any base t v) → DataW.Whole enc C.prog fn.params.toList s.vars apart W args.toList ds gs before →
      conds.all (PathCond.test C.prog ⟨fn.params.toList, ds, s.plain.varTypes C.prog, gs⟩) = true → (DataW.weightsEach C.prog (fn.params.toList ++ s.plain.varTypes C.prog) (ds ++ gs)).all (· ≤ reachBytes) = true → X W args →
      W.ShapedOpen C.prog → a.holds C.prog (lone (Frame.enter C.prog f args .normal) [] W) → Calls C.prog f args W fun e W' => ∃ v, e = .returned v ∧ s.post enc C.prog fn apart fresh handsOn again W args v W') :
    ReturnsInHanded a C os f .any (fun w args => (s.pre enc C.prog fn conds apart w args ∧ X w args) ∧ sizedMet enc C.prog fn (OpenSpec.ofChange s) apart w args) (s.post enc C.prog fn apart fresh handsOn again) := by
  refine returnsInHanded_of_calls own started noInit witness ?_
  intro w tape i _ hsh _ hok hpre hholds
  obtain ⟨_, _, _, fn', hfn', _, _, _, _, hval⟩ := hok
  have e : fn' = fn := Option.some.inj (hfn'.symm.trans hfn)
  subst e
  obtain ⟨⟨⟨ds, gs, before, hw, hc⟩, hx⟩, hz⟩ := hpre
  refine (contract (w.forCall tape i) w.heap.size i.args ds gs before hval (DataW.Whole.of_heap (w' := w.forCall tape i) (by rfl) hw) hc (hz.weights hw) (hX _ _ _ (by rfl) hx) hsh hholds).mono fun e W' ⟨v, he, hp⟩ => ?_
  subst he
  exact ChangeSpec.post_blind hp
set_option maxRecDepth 100000 in
theorem lifted (os : Os) (started : os.Started) (H : Type) (enc : TypeId × Value → H) :
    ReturnsInHanded {} Tryd.checked os 3 .any (fun w args => (Rows.fnExactParseFormSpec.pre enc Tryd.prog Tryd.f3 [] false w args ∧ laidMetH Tryd.prog laid w) ∧ sizedMet enc Tryd.prog Tryd.f3 (OpenSpec.ofChange Rows.fnExactParseFormSpec) false w args)
      (Rows.fnExactParseFormSpec.post enc Tryd.prog Tryd.f3 false true false false) := by
  refine ret_and_shaped (C := Tryd.checked) (X := fun w _ => laidMetH Tryd.prog laid w) (fun _ _ _ hh h => h.of_heap hh) own started (by kernel_rfl) Tryd.func3
    (ChangeSpec.witness_shaped (enc := enc) (C := Tryd.checked) (os := os) (X := fun w _ => laidMetH Tryd.prog laid w) false (World.laidAll Tryd.prog os laid) #[.string ByteArray.empty] 8 (World.laidAll_os _ _ _) (World.shaped_of_ZipB (by kernel_rfl) (by kernel_rfl)) (by kernel_rfl) (by kernel_rfl) (by kernel_rfl) (door_met os _)) ?_
  intro W base args ds gs before hval0 hW hcnd hsz0 hL hsh _
  have hval : ∀ (j : Nat) t v, Tryd.f3.params[j]? = some t → args[j]? = some v → Value.okWide Tryd.prog W .any base t v := hval0
  have hW' := hW
  obtain ⟨p, q, hA0, hV, rfl, hfz, hnd⟩ := hW
  have hA : DataW.TrodAll enc Tryd.prog W 0 (fun _ => true) true Tryd.f3.params.toList args.toList ds p := hA0
  rw [Tryd.params3] at hA hval
  obtain ⟨v0, vs0, d0, ds0, p0, q0, hargs, rfl, rfl, h0, r0⟩ := trodAll_cons hA
  obtain ⟨rfl, rfl, rfl⟩ := trodAll_nil r0
  obtain rfl : args = #[v0] := by cases args; simp_all
  obtain ⟨rfl, rfl⟩ := trodVars_none hV
  obtain ⟨a0, rfl, rfl, rfl, y0⟩ := open_string Tryd.underlying9 (hval 0 9 v0 rfl rfl) h0
  have w0 : a0.size ≤ 9223372036854775807 := by simpa [maxLen] using y0
  clear hA0 hval0 hsz0
  obtain ⟨k, hk⟩ := Pure.FnExactParseForm a0 w0
  refine (X.laws_FnExactParseForm.calls k a0 true W (table hL hsh) hk).mono ?_
  rintro e W' ⟨he, bel0⟩
  have bel : Below W.heap.size W W' := by first | exact bel0 | exact bel0.below
  subst he
  exact ⟨_, rfl, _, _, _, [], _, [], hW', trodAll_mk1 (shut_bool Tryd.underlying4 _), (trodAll_cons_mk (shut_string Tryd.underlying9 y0) trodAll_mk0), rfl, bel.frame _, fun h => by cases h⟩
theorem over : Rows.fnExactParseFormRow.holds Tryd.pinned (OpenSpec.ofChange Rows.fnExactParseFormSpec) :=
  OpenClaim.holds_of_wide 3 Tryd.f3 rfl rfl rfl rfl rfl rfl rfl ⟨rfl, rfl, rfl, rfl, rfl⟩ rfl rfl rfl rfl rfl (by kernel_rfl) Tryd.func3 (by kernel_rfl)
    (of_decide_eq_true (by kernel_rfl)) (by unfold Func.isWrapper; first | (rw [if_pos (by decide +kernel)]; kernel_rfl) | (rw [if_neg (by decide +kernel)]; exact ⟨rfl, rfl⟩))
    (fun os started H enc _ => lifted os started H enc)
theorem proved : Rows.FnExactParseFormSaid := over
#print axioms proved
theorem plain (f : FuncId) (fn : Func) (hf : Tryd.pinned.checked.prog.funcNamed "loop.example/g00876/laws.FnExactParseForm" = some f) (hfn : Tryd.pinned.checked.prog.funcs[f]? = some fn) :
    true = Tryd.pinned.checked.prog.looks [] ∧ ∀ (j : Nat) t, fn.params[j]? = some t → Tryd.pinned.checked.prog.wantsStandIn t = false := by
  obtain rfl : f = 3 := Option.some.inj ((show Tryd.prog.funcNamed "loop.example/g00876/laws.FnExactParseForm" = some 3 by kernel_rfl).symm.trans hf) |>.symm
  obtain rfl : fn = Tryd.f3 := (Option.some.inj (Tryd.func3.symm.trans hfn)).symm
  refine ⟨by kernel_rfl, fun j t ht => ?_⟩
  rw [Tryd.params3] at ht
  have hm := Array.mem_of_getElem? ht
  simp only [List.mem_toArray, List.mem_cons, List.not_mem_nil, or_false] at hm
  rcases hm with rfl
  exact (show Tryd.prog.wantsStandIn 9 = false by kernel_rfl)
theorem card : Rows.FnExactParseFormCardSaid :=
  Claim7.holds_tied_plain_at .later [] _ _ _ _ proved (fun _ h => by cases h) (by kernel_rfl) (fun _ h => by cases h) fnExactParseForm_row_tie rfl ⟨rfl, rfl⟩ (by kernel_rfl) rfl plain (by kernel_rfl)
#print axioms card
end Go.Proofs.YtcjloeeomhiblaaDoor.fnExactParseForm
namespace Go.Proofs.YtcjloeeomhiblaaDoor
/-- The row, under a short name, for the claim. -/
theorem fnExactParseForm_holds : Rows.FnExactParseFormSaid := fnExactParseForm.proved
/-- The card, under a short name. -/
theorem fnExactParseFormCard_holds : Rows.FnExactParseFormCardSaid := fnExactParseForm.card
end Go.Proofs.YtcjloeeomhiblaaDoor
