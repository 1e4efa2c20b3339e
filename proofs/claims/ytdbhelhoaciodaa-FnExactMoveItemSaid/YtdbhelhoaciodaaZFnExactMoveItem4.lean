/- For all items, boxes, capacities and numbers the law FnExactMoveItem answers true. No condition beyond what a reading tells.
This file (part 4 of 5) holds what the proof needs: plain functions with rounds and contracts written by programs of this work over the translation, and the lemmas. -/
import Derived.Test.YtdbhelhoaciodaaZFnExactMoveItem2
import Derived.Test.YtdbhelhoaciodaaZFnExactMoveItem3
import Derived.Shelf.Abstract
import Derived.Test.YtdbhelhoaciodaaZFnExactMoveItem1
import Derived.ChangeArms
import Derived.DataReads
import Derived.Deep.Slices
import Derived.ChangeOld
import Derived.OpenShut
namespace Go.Proofs.Ytdbhelhoaciodaa.X
open Go.RowKit Go.Proofs.YtdbhelhoaciodaaW.PrintWords Go.Proofs.YtdbhelhoaciodaaW.PrintLast Go.Proofs.YtdbhelhoaciodaaW.PrintMore
attribute [local go_sem] max2_int min2_int max_two min_two max_three min_three max_four min_four
set_option linter.unusedVariables false
set_option linter.unusedSimpArgs false
attribute [-simp] ByteArray.size_append ByteArray.size_extract
attribute [-go_sem] ByteArray.size_append'
/-! ### impl_IsValidArchive: function 61 -/
mutual
def impl_IsValidArchive.j0 : Nat → List (S83) → List (S80) → Int → Bool → Option (Bool)
 | 0, _, _, _, _ => none
 | k + 1, x0, x1, x2, x27 => if x27 = true then (some false) else (if 0 ≤ (x0.length : Int) then (if ((x0.length : Int) : Int).toNat ≤ 281474976710656 then (impl_IsValidArchive.l0 k x0 x1 x2 0 (List.replicate ((x0.length : Int) : Int).toNat false) x1 (x1.length : Int) 0) else (none)) else (none))
def impl_IsValidArchive.l0 : Nat → List (S83) → List (S80) → Int → Int → List Bool → List (S80) → Int → Int → Option (Bool)
 | 0, _, _, _, _, _, _, _, _ => none
 | k + 1, x0, x1, x2, x7, x8, x31, x32, x33 => if x33 < x32 then (if 0 ≤ x33 then (if x33 < (x31.length : Int) then ((impl_isBoxNumber.f ((rd_T80 x31 x33).f0)).bind fun t108 => (if t108 = true then (if x33 > 0 then (if 0 ≤ (wrap64 (x33 - 1)) then (if (wrap64 (x33 - 1)) < (x1.length : Int) then (impl_IsValidArchive.j2 k x0 x1 x2 x7 x8 x31 x32 x33 (decide (((rd_T80 x31 x33).f0) ≤ ((rd_T80 x1 (wrap64 (x33 - 1))).f0))) ((rd_T80 x31 x33).f0) ((rd_T80 x31 x33).f1)) else (none)) else (none)) else (impl_IsValidArchive.j2 k x0 x1 x2 x7 x8 x31 x32 x33 false ((rd_T80 x31 x33).f0) ((rd_T80 x31 x33).f1))) else (impl_IsValidArchive.j2 k x0 x1 x2 x7 x8 x31 x32 x33 true ((rd_T80 x31 x33).f0) ((rd_T80 x31 x33).f1)))) else (none)) else (none)) else (some (x7 == (x0.length : Int)))
def impl_IsValidArchive.j2 : Nat → List (S83) → List (S80) → Int → Int → List Bool → List (S80) → Int → Int → Bool → Int → List Int → Option (Bool)
 | 0, _, _, _, _, _, _, _, _, _, _, _ => none
 | k + 1, x0, x1, x2, x7, x8, x31, x32, x33, x56, x108000, x108001 => if x56 = true then (some false) else (impl_IsValidArchive.l1 k x0 x1 x2 x7 x8 (([] : List Int)) x31 x32 x33 x108001 (x108001.length : Int) 0 x108000 x108001)
def impl_IsValidArchive.l1 : Nat → List (S83) → List (S80) → Int → Int → List Bool → List Int → List (S80) → Int → Int → List Int → Int → Int → Int → List Int → Option (Bool)
 | 0, _, _, _, _, _, _, _, _, _, _, _, _, _, _ => none
 | k + 1, x0, x1, x2, x7, x8, x11, x31, x32, x33, x59, x60, x61, x108000, x108001 => if x61 < x60 then (if 0 ≤ x61 then (if x61 < (x59.length : Int) then ((impl_itemOf.f x0 (rd x59 x61)).bind fun t114 => (if t114 < 0 then (some false) else (if 0 ≤ t114 then (if t114 < (x8.length : Int) then (if rdOf false x8 t114 = true then (some false) else (if x61 > 0 then (if 0 ≤ (wrap64 (x61 - 1)) then (if (wrap64 (x61 - 1)) < (x108001.length : Int) then (if (rd x59 x61) ≤ (rd x108001 (wrap64 (x61 - 1))) then (some false) else ((impl_fits.f k x0 x11 t114 x2).bind fun t117 => (if t117 = true then (if x11.length < 17592186044416 then (impl_IsValidArchive.l1 k x0 x1 x2 (wrap64 (x7 + 1)) (x8.set (t114 : Int).toNat true) (x11 ++ [t114]) x31 x32 x33 x59 x60 (wrap64 (x61 + 1)) x108000 x108001) else (none)) else (some false)))) else (none)) else (none)) else ((impl_fits.f k x0 x11 t114 x2).bind fun t122 => (if t122 = true then (if x11.length < 17592186044416 then (impl_IsValidArchive.l1 k x0 x1 x2 (wrap64 (x7 + 1)) (x8.set (t114 : Int).toNat true) (x11 ++ [t114]) x31 x32 x33 x59 x60 (wrap64 (x61 + 1)) x108000 x108001) else (none)) else (some false))))) else (none)) else (none)))) else (none)) else (none)) else (impl_IsValidArchive.l0 k x0 x1 x2 x7 x8 x31 x32 (wrap64 (x33 + 1)))
end
def impl_IsValidArchive.f (k : Nat) (l0 : List (S83)) (l1 : List (S80)) (a2 : Int) : Option (Bool) := (impl_areItems.f k l0).bind fun t101 => (if t101 = true then ((impl_isCapacity.f a2).bind fun t102 => (if t102 = true then (impl_IsValidArchive.j0 k l0 l1 a2 (decide ((l1.length : Int) > 12))) else (impl_IsValidArchive.j0 k l0 l1 a2 true))) else (impl_IsValidArchive.j0 k l0 l1 a2 true))
set_option maxHeartbeats 8000000 in
set_option maxRecDepth 100000 in
theorem impl_IsValidArchive.calls (k : Nat) (A0 : Option Addr) (c0 : Nat) (l0 : List (S83)) (A1 : Option Addr) (c1 : Nat) (l1 : List (S80)) (a2 : Int) (r : Bool) (w : World) (hr0 : Kd.C k83 w A0 l0.length l0) (hc0 : l0.length ≤ c0) (hr1 : Kd.C k80 w A1 l1.length l1) (hc1 : l1.length ≤ c1) (h : impl_IsValidArchive.f k l0 l1 a2 = some r) :
  Calls Try.prog 61 #[.slice A0 l0.length c0, .slice A1 l1.length c1, .int .i64 a2] w fun e w' => e = .returned (.bool r) ∧ Below w.heap.size w w' := by
 (have hu80 := Try.underlying80); (have HR0 := Aside0.mk hr0); (have HC0 := Aside0.mk hc0); clear hr0 hc0; (have HR1 := Aside0.mk hr1); (have HC1 := Aside0.mk hc1); clear hr1 hc1; (have HB := Aside0.mk (Below.refl w.heap.size w)); (unfold impl_IsValidArchive.f at h); (have H := h); clear h; (have HC4 := Aside0.mk H); clear H; (go_enter Try.func61, Try.ntmps61); (go_upto_region 1 with (fail)); (repeat (go_quiet (fail); go_upto_region 1 with (fail))); (go_cut [27] (fun v27 wc => ∃ (kq : Nat) (x27_3 : Bool), v27 = .bool x27_3 ∧ Aside0 (impl_IsValidArchive.j0 kq l0 l1 a2 x27_3 = some r) ∧ Aside0 (kq ≤ k) ∧ Aside0 (Below w.heap.size w wc)))
 case first =>
  (have H := HC4.out); clear HC4; (replace H := obS H); (obtain ⟨t101, A5, H⟩ := H); (by_cases c6 : t101 = true)
  ·subst c6
   (rw [if_pos rfl] at H); (replace H := obS H); (obtain ⟨t102, A7, H⟩ := H); (by_cases c8 : t102 = true)
   ·subst c8
    (rw [if_pos rfl] at H); (have H' := Aside0.mk H); clear H; (go_wp2_with (first | (go_at_call 51; (with_reducible refine (impl_areItems.calls k _ _ l0 true _ ?side1 ?side2 A5.out).mono ?_); (case side1 => exact Q92); (case side2 => exact HC0.out); rintro e w9 ⟨rfl, hb⟩; have n0_ := Aside0.mk (sI hb HB); clear HB; have HB := n0_; clear n0_; (try clear hb); (try clear hb2); (try clear hk); (try clear hi)) | (go_at_call 71; (with_reducible refine (impl_isCapacity.calls a2 true _ A7.out).mono ?_); rintro e w' ⟨rfl, ⟨nd, rfl⟩⟩; (try first | exact Q77 | exact Q78)))); (repeat (go_quiet (first | (go_at_call 51; (with_reducible refine (impl_areItems.calls k _ _ l0 true _ ?side1 ?side2 A5.out).mono ?_); (case side1 => exact Q92); (case side2 => exact HC0.out); rintro e w9 ⟨rfl, hb⟩; have n0_ := Aside0.mk (sI hb HB); clear HB; have HB := n0_; clear n0_; (try clear hb); (try clear hb2); (try clear hk); (try clear hi)) | (go_at_call 71; (with_reducible refine (impl_isCapacity.calls a2 true _ A7.out).mono ?_); rintro e w' ⟨rfl, ⟨nd, rfl⟩⟩; (try first | exact Q77 | exact Q78))); try go_wp2_with (first | (go_at_call 51; (with_reducible refine (impl_areItems.calls k _ _ l0 true _ ?side1 ?side2 A5.out).mono ?_); (case side1 => exact Q92); (case side2 => exact HC0.out); rintro e w9 ⟨rfl, hb⟩; have n0_ := Aside0.mk (sI hb HB); clear HB; have HB := n0_; clear n0_; (try clear hb); (try clear hb2); (try clear hk); (try clear hi)) | (go_at_call 71; (with_reducible refine (impl_isCapacity.calls a2 true _ A7.out).mono ?_); rintro e w' ⟨rfl, ⟨nd, rfl⟩⟩; (try first | exact Q77 | exact Q78))))); (go_meet)
    case rel => exact ⟨_, (decide ((l1.length : Int) > 12)), Q6, H', ⟨Q98⟩, ⟨eI HB⟩⟩
   ·replace c8 := Bool.eq_false_iff.mpr c8
    subst c8; (rw [if_neg (show ¬ (false = true) by decide)] at H); (have H' := Aside0.mk H); clear H; (go_wp2_with (first | (go_at_call 51; (with_reducible refine (impl_areItems.calls k _ _ l0 true _ ?side1 ?side2 A5.out).mono ?_); (case side1 => exact Q92); (case side2 => exact HC0.out); rintro e w10 ⟨rfl, hb⟩; have n0_ := Aside0.mk (sI hb HB); clear HB; have HB := n0_; clear n0_; (try clear hb); (try clear hb2); (try clear hk); (try clear hi)) | (go_at_call 71; (with_reducible refine (impl_isCapacity.calls a2 false _ A7.out).mono ?_); rintro e w' ⟨rfl, ⟨nd, rfl⟩⟩; (try first | exact Q77 | exact Q78)))); (repeat (go_quiet (first | (go_at_call 51; (with_reducible refine (impl_areItems.calls k _ _ l0 true _ ?side1 ?side2 A5.out).mono ?_); (case side1 => exact Q92); (case side2 => exact HC0.out); rintro e w10 ⟨rfl, hb⟩; have n0_ := Aside0.mk (sI hb HB); clear HB; have HB := n0_; clear n0_; (try clear hb); (try clear hb2); (try clear hk); (try clear hi)) | (go_at_call 71; (with_reducible refine (impl_isCapacity.calls a2 false _ A7.out).mono ?_); rintro e w' ⟨rfl, ⟨nd, rfl⟩⟩; (try first | exact Q77 | exact Q78))); try go_wp2_with (first | (go_at_call 51; (with_reducible refine (impl_areItems.calls k _ _ l0 true _ ?side1 ?side2 A5.out).mono ?_); (case side1 => exact Q92); (case side2 => exact HC0.out); rintro e w10 ⟨rfl, hb⟩; have n0_ := Aside0.mk (sI hb HB); clear HB; have HB := n0_; clear n0_; (try clear hb); (try clear hb2); (try clear hk); (try clear hi)) | (go_at_call 71; (with_reducible refine (impl_isCapacity.calls a2 false _ A7.out).mono ?_); rintro e w' ⟨rfl, ⟨nd, rfl⟩⟩; (try first | exact Q77 | exact Q78))))); (go_meet)
    case rel => exact Q122
  ·replace c6 := Bool.eq_false_iff.mpr c6
   subst c6; (rw [if_neg (show ¬ (false = true) by decide)] at H); (have H' := Aside0.mk H); clear H; (go_wp2_with (first | (go_at_call 51; (with_reducible refine (impl_areItems.calls k _ _ l0 false _ ?side1 ?side2 A5.out).mono ?_); (case side1 => exact Q92); (case side2 => exact HC0.out); rintro e w11 ⟨rfl, hb⟩; have n0_ := Aside0.mk (sI hb HB); clear HB; have HB := n0_; clear n0_; (try clear hb); (try clear hb2); (try clear hk); (try clear hi)))); (repeat (go_quiet (first | (go_at_call 51; (with_reducible refine (impl_areItems.calls k _ _ l0 false _ ?side1 ?side2 A5.out).mono ?_); (case side1 => exact Q92); (case side2 => exact HC0.out); rintro e w11 ⟨rfl, hb⟩; have n0_ := Aside0.mk (sI hb HB); clear HB; have HB := n0_; clear n0_; (try clear hb); (try clear hb2); (try clear hk); (try clear hi))); try go_wp2_with (first | (go_at_call 51; (with_reducible refine (impl_areItems.calls k _ _ l0 false _ ?side1 ?side2 A5.out).mono ?_); (case side1 => exact Q92); (case side2 => exact HC0.out); rintro e w11 ⟨rfl, hb⟩; have n0_ := Aside0.mk (sI hb HB); clear HB; have HB := n0_; clear n0_; (try clear hb); (try clear hb2); (try clear hk); (try clear hi))))); (go_meet)
   case rel => exact Q122
 case rest =>
  clear HC4; (try clear c1); (try clear p2); (try clear c6); (try clear c8); (obtain ⟨kq, x27_3, rfl, HA, HJ3, HB⟩ := hcut)
  cases kq with
  | zero => exact absurd HA.out (by simp [impl_IsValidArchive.j0])
  | succ kj3 =>
   (have H := HA.out); clear HA; (simp only [impl_IsValidArchive.j0] at H); (by_cases c12 : x27_3 = true); (· subst c12; (rw [if_pos rfl] at H); (obtain rfl := Option.some.inj H); (go_wp2); (repeat (go_quiet (fail); try go_wp2)); go_ret; (exact Q18))
   ·replace c12 := Bool.eq_false_iff.mpr c12
    subst c12; (rw [if_neg (show ¬ (false = true) by decide)] at H); (by_cases c13 : 0 ≤ (l0.length : Int))
    ·rw [if_pos c13] at H
     (have c13b0 := eq_true c13); (have c13b1 := decide_eq_true c13); clear c13; (by_cases c14 : ((l0.length : Int) : Int).toNat ≤ 281474976710656)
     ·rw [if_pos c14] at H
      (have c14b0 := eq_true c14); (have c14b1 := decide_eq_true c14); clear c14; (obtain ⟨y103, hy103⟩ : ∃ y_ : List Bool, y_ = (List.replicate ((l0.length : Int) : Int).toNat false) := ⟨_, rfl⟩); (replace H : (impl_IsValidArchive.l0 kj3 l0 l1 a2 0 y103 l1 (l1.length : Int) 0) = some r := Q30); (have Ny103 := Aside0.mk hy103); clear hy103; (have H' := Aside0.mk H); clear H; (go_wp2_with (first | ((with_reducible refine gate_dst (N := 30) rfl ?_); refine Kd.R_make Kd.bool _ 4 rfl (N := 30) rfl 132 _ _ rfl (l0.length : Int) rfl rfl Try.underlying132 (.bool false) 1 info4 rfl (by decide) (by omega) false (ok := fun _ => True) (okp := fun _ => True) rfl (fun _ hk => hk) trivial odt (Nat.le_trans (Nat.mul_le_mul_right _ (odt : (l0.length : Int).toNat ≤ 281474976710656)) (by omega)) (Below.refl _ _) (Nat.le_refl _) ?_; intro v104 w15 ho16 hb hg_ hnew_; clear hg_ hnew_; (first | rw [← Ny103.out] at ho16 | (simp only [Int.reduceToNat] at ho16; rw [← Ny103.out] at ho16)); have hB_ := zI hb HB; have n0_ := Aside0.mk (Kd.R_lower ho16 (below_size hB_)); have n1_ := Aside0.mk (below_step hB_ hb); clear HB; have HO105 := n0_; have HB := n1_; clear n0_ n1_ hB_ hb ho16))); (repeat (go_quiet (first | ((with_reducible refine gate_dst (N := 30) rfl ?_); refine Kd.R_make Kd.bool _ 4 rfl (N := 30) rfl 132 _ _ rfl (l0.length : Int) rfl rfl Try.underlying132 (.bool false) 1 info4 rfl (by decide) (by omega) false (ok := fun _ => True) (okp := fun _ => True) rfl (fun _ hk => hk) trivial odt (Nat.le_trans (Nat.mul_le_mul_right _ (odt : (l0.length : Int).toNat ≤ 281474976710656)) (by omega)) (Below.refl _ _) (Nat.le_refl _) ?_; intro v104 w15 ho16 hb hg_ hnew_; clear hg_ hnew_; (first | rw [← Ny103.out] at ho16 | (simp only [Int.reduceToNat] at ho16; rw [← Ny103.out] at ho16)); have hB_ := zI hb HB; have n0_ := Aside0.mk (Kd.R_lower ho16 (below_size hB_)); have n1_ := Aside0.mk (below_step hB_ hb); clear HB; have HO105 := n0_; have HB := n1_; clear n0_ n1_ hB_ hb ho16)); try go_wp2_with (first | ((with_reducible refine gate_dst (N := 30) rfl ?_); refine Kd.R_make Kd.bool _ 4 rfl (N := 30) rfl 132 _ _ rfl (l0.length : Int) rfl rfl Try.underlying132 (.bool false) 1 info4 rfl (by decide) (by omega) false (ok := fun _ => True) (okp := fun _ => True) rfl (fun _ hk => hk) trivial odt (Nat.le_trans (Nat.mul_le_mul_right _ (odt : (l0.length : Int).toNat ≤ 281474976710656)) (by omega)) (Below.refl _ _) (Nat.le_refl _) ?_; intro v104 w15 ho16 hb hg_ hnew_; clear hg_ hnew_; (first | rw [← Ny103.out] at ho16 | (simp only [Int.reduceToNat] at ho16; rw [← Ny103.out] at ho16)); have hB_ := zI hb HB; have n0_ := Aside0.mk (Kd.R_lower ho16 (below_size hB_)); have n1_ := Aside0.mk (below_step hB_ hb); clear HB; have HO105 := n0_; have HB := n1_; clear n0_ n1_ hB_ hb ho16)))); (go_loopg [7, 33] kj3 (fun kq v7 v33 w' => ∃ (x7_2 : Int) (x8_2 : List Bool) (x33_2 : Int), v7 = .int .i64 x7_2 ∧ v33 = .int .i64 x33_2 ∧ Aside0 (impl_IsValidArchive.l0 kq l0 l1 a2 x7_2 x8_2 l1 (l1.length : Int) x33_2 = some r) ∧ Aside0 (kq ≤ kj3) ∧ Aside0 (Kd.R Kd.bool 4 w' w.heap.size (fun _ => True) v104 x8_2) ∧ Aside0 (Below w.heap.size w w')))
      case atStart => exact ⟨(0), (y103), (0), Q6, Q6, H', ⟨Nat.le_refl _⟩, ⟨rI HO105⟩, ⟨eI HB⟩⟩
      case round =>
       (clear H'); (try clear c1); (try clear p2); (try clear c6); (try clear c8); (try clear c12); (try clear c13); (try clear c13b0); (try clear c13b1); (try clear c14); (try clear c14b0); (try clear c14b1); (try clear p2); (obtain ⟨x7_2, x8_2, x33_2, rfl, rfl, HA, HK2, HO_8, HB⟩ := hrel)
       cases gk with
       | zero => exact absurd HA.out (by simp [impl_IsValidArchive.l0])
       | succ k2 =>
        (have H := HA.out); clear HA; (simp only [impl_IsValidArchive.l0] at H); (by_cases c17 : x33_2 < (l1.length : Int))
        ·rw [if_pos c17] at H
         (have c17b0 := decide_eq_true c17); clear c17; (by_cases c18 : 0 ≤ x33_2)
         ·rw [if_pos c18] at H
          (have c18b0 := decide_eq_true c18); clear c18; (by_cases c19 : x33_2 < (l1.length : Int))
          ·rw [if_pos c19] at H
           (have c19b0 := decide_eq_true c19); clear c19; (have HC20 := Aside0.mk H); clear H; (have p106 : 0 ≤ (x33_2 : Int) := odt); (have q106 : x33_2 < (l1.length : Int) := odt); (obtain ⟨ad106, A106_1, c106_1, e106, hx106_0, hx106_1, hl106_1, hi106_1⟩ := at_T80 HR1.out x33_2 p106 q106); (cases e106); (replace hx106_0 := hcI HB hx106_0); (replace hx106_1 := hcI HB hx106_1); (have HR106_1 := Aside0.mk hi106_1); (have HC106_1 := Aside0.mk hl106_1); clear hi106_1 hl106_1; (replace p106 := eq_true p106); (replace q106 := eq_true q106); (go_upto_region 8 with (first | ((with_reducible refine gate_dst (N := 10) rfl ?_); refine box_event ?hg (N := 10) ?hd (cs := #[.int .i64 0, .slice none 0 0]) (t := 80) ?hr ?_; (case hd => rfl); (case hg => rfl); (case hr => first | (go_simp; done) | (go_simp; rfl)); intro gb107 hg w21 hbox hb; have n0_ := Aside0.mk (rbI hb HO_8); have hB_ := zI hb HB; have n1_ := Aside0.mk (below_step hB_ hb); have n2_ := Aside0.mk (hbox); have n3_ := Aside0.mk (bx0 hg hB_); have n4_ := n3_; clear HO_8 HB; have HO_8 := n0_; have HB := n1_; have BK107 := n2_; have GW107 := n3_; have GE107 := n4_; clear n0_ n1_ n2_ n3_ n4_ hB_ hb hbox hg; have hcz22_0 := cz BK107.out 0; have hcz22_1 := cz BK107.out 1; have hfz22_0 := blk_frozen BK107.out 0; have hfz22_1 := blk_frozen BK107.out 1))); (repeat (go_quiet (first | ((with_reducible refine gate_dst (N := 10) rfl ?_); refine box_event ?hg (N := 10) ?hd (cs := #[.int .i64 0, .slice none 0 0]) (t := 80) ?hr ?_; (case hd => rfl); (case hg => rfl); (case hr => first | (go_simp; done) | (go_simp; rfl)); intro gb107 hg w21 hbox hb; have n0_ := Aside0.mk (rbI hb HO_8); have hB_ := zI hb HB; have n1_ := Aside0.mk (below_step hB_ hb); have n2_ := Aside0.mk (hbox); have n3_ := Aside0.mk (bx0 hg hB_); have n4_ := n3_; clear HO_8 HB; have HO_8 := n0_; have HB := n1_; have BK107 := n2_; have GW107 := n3_; have GE107 := n4_; clear n0_ n1_ n2_ n3_ n4_ hB_ hb hbox hg; have hcz22_0 := cz BK107.out 0; have hcz22_1 := cz BK107.out 1; have hfz22_0 := blk_frozen BK107.out 0; have hfz22_1 := blk_frozen BK107.out 1)); go_upto_region 8 with (first | ((with_reducible refine gate_dst (N := 10) rfl ?_); refine box_event ?hg (N := 10) ?hd (cs := #[.int .i64 0, .slice none 0 0]) (t := 80) ?hr ?_; (case hd => rfl); (case hg => rfl); (case hr => first | (go_simp; done) | (go_simp; rfl)); intro gb107 hg w21 hbox hb; have n0_ := Aside0.mk (rbI hb HO_8); have hB_ := zI hb HB; have n1_ := Aside0.mk (below_step hB_ hb); have n2_ := Aside0.mk (hbox); have n3_ := Aside0.mk (bx0 hg hB_); have n4_ := n3_; clear HO_8 HB; have HO_8 := n0_; have HB := n1_; have BK107 := n2_; have GW107 := n3_; have GE107 := n4_; clear n0_ n1_ n2_ n3_ n4_ hB_ hb hbox hg; have hcz22_0 := cz BK107.out 0; have hcz22_1 := cz BK107.out 1; have hfz22_0 := blk_frozen BK107.out 0; have hfz22_1 := blk_frozen BK107.out 1)))); ((try simp only [Act.put, aS1, aS2, aS3])); (go_cut [56] (fun v56 wc => ∃ (kq : Nat) (x56_19 : Bool), v56 = .bool x56_19 ∧ Aside0 (impl_IsValidArchive.j2 kq l0 l1 a2 x7_2 x8_2 l1 (l1.length : Int) x33_2 x56_19 ((rd_T80 l1 x33_2).f0) ((rd_T80 l1 x33_2).f1) = some r) ∧ Aside0 (kq ≤ k2) ∧ Aside0 (Kd.R Kd.bool 4 wc w.heap.size (fun _ => True) v104 x8_2) ∧ Aside0 (wc.heap[gb107]? = some (.cells #[.int .i64 ((rd_T80 l1 x33_2).f0), (.slice A106_1 ((rd_T80 l1 x33_2).f1).length c106_1)] 80 (0, 0))) ∧ Aside0 (Below w.heap.size w wc)))
           case first =>
            (have H := HC20.out); clear HC20; (replace H := obS H); (obtain ⟨t108, A23, H⟩ := H); (by_cases c24 : t108 = true)
            ·subst c24
             (rw [if_pos rfl] at H); (by_cases c25 : x33_2 > 0)
             ·rw [if_pos c25] at H
              (have c25b0 : decide (0 < x33_2) = true := decide_eq_true c25); clear c25; ((first | rw [c25b0] | (simp only [i64_w, i32_w]; rw [c25b0]) | skip)); (obtain ⟨ji26, hji26⟩ : ∃ j_ : Int, (wrap64 (x33_2 - 1)) = j_ := ⟨_, rfl⟩); (replace H : (if 0 ≤ (ji26) then (if (ji26) < (l1.length : Int) then (impl_IsValidArchive.j2 k2 l0 l1 a2 x7_2 x8_2 l1 (l1.length : Int) x33_2 (decide (((rd_T80 l1 x33_2).f0) ≤ ((rd_T80 l1 (ji26)).f0))) ((rd_T80 l1 x33_2).f0) ((rd_T80 l1 x33_2).f1)) else (none)) else (none)) = some r := by first | (rw [hji26] at H; exact H) | (simp only [hji26] at H ⊢; exact H)); ((try rw [hji26] at A23)); (have hji26w : (IntKind.i64.wrap (x33_2 - 1)) = ji26 := (i64_w _).trans hji26); (by_cases c27 : 0 ≤ (ji26))
              ·rw [if_pos c27] at H
               (have c27b0 := decide_eq_true c27); clear c27; (by_cases c28 : (ji26) < (l1.length : Int))
               ·rw [if_pos c28] at H
                (have c28b0 := decide_eq_true c28); clear c28; (have H' := Aside0.mk H); clear H; (have hcz29_0 := cz BK107.out 0); (have hcz29_1 := cz BK107.out 1); (have hfz29_0 := blk_frozen BK107.out 0); (have hfz29_1 := blk_frozen BK107.out 1); (go_wp2_with (first | (go_at_call 103; (with_reducible refine (impl_isBoxNumber.calls ((rd_T80 l1 x33_2).f0) true _ A23.out).mono ?_); rintro e w' ⟨rfl, ⟨nd, rfl⟩⟩; (try first | exact Q77 | exact Q78); have p109 : 0 ≤ ((ji26) : Int) := odt; have q109 : (ji26) < (l1.length : Int) := odt; obtain ⟨ad109, A109_1, c109_1, e109, hx109_0, hx109_1, hl109_1, hi109_1⟩ := at_T80 HR1.out (ji26) p109 q109; obtain rfl : ad106 = ad109 := (by injection e109); have hn109_0 : ad106.block ≠ gb107 := Nat.ne_of_lt (Nat.lt_of_lt_of_le Q123 GW107.out); have hn109_1 : ad106.block ≠ gb107 := Nat.ne_of_lt (Nat.lt_of_lt_of_le Q123 GW107.out); replace hx109_0 := hcI HB hx109_0; replace hx109_1 := hcI HB hx109_1; have HR109_1 := Aside0.mk hi109_1; have HC109_1 := Aside0.mk hl109_1; clear hi109_1 hl109_1; replace hx109_0 := (cell_far (p := ⟨gb107, 0, none⟩) Q124 (.int .i64 ((rd_T80 l1 x33_2).f0))).trans hx109_0; replace hx109_1 := (cell_far (p := ⟨gb107, 0, none⟩) Q124 (.int .i64 ((rd_T80 l1 x33_2).f0))).trans hx109_1; replace hx109_0 := (cell_far (p := ⟨gb107, 1, none⟩) Q125 (.slice A106_1 ((rd_T80 l1 x33_2).f1).length c106_1)).trans hx109_0; replace hx109_1 := (cell_far (p := ⟨gb107, 1, none⟩) Q125 (.slice A106_1 ((rd_T80 l1 x33_2).f1).length c106_1)).trans hx109_1; (try have hy109_0 := fun (n_ : Nat) => (show ((((w21.drewN n_).setCell ⟨gb107, 0, none⟩ (.int .i64 ((rd_T80 l1 x33_2).f0))).setCell ⟨gb107, 1, none⟩ (.slice A106_1 ((rd_T80 l1 x33_2).f1).length c106_1))).cell? _ = some _ from hx109_0)); (try have hy109_1 := fun (n_ : Nat) => (show ((((w21.drewN n_).setCell ⟨gb107, 0, none⟩ (.int .i64 ((rd_T80 l1 x33_2).f0))).setCell ⟨gb107, 1, none⟩ (.slice A106_1 ((rd_T80 l1 x33_2).f1).length c106_1))).cell? _ = some _ from hx109_1)); clear hn109_0 hn109_1; replace p109 := eq_true p109; replace q109 := eq_true q109)))
                (repeat (go_quiet (first | (go_at_call 103; (with_reducible refine (impl_isBoxNumber.calls ((rd_T80 l1 x33_2).f0) true _ A23.out).mono ?_); rintro e w' ⟨rfl, ⟨nd, rfl⟩⟩; (try first | exact Q77 | exact Q78); have p109 : 0 ≤ ((ji26) : Int) := odt; have q109 : (ji26) < (l1.length : Int) := odt; obtain ⟨ad109, A109_1, c109_1, e109, hx109_0, hx109_1, hl109_1, hi109_1⟩ := at_T80 HR1.out (ji26) p109 q109; obtain rfl : ad106 = ad109 := (by injection e109); have hn109_0 : ad106.block ≠ gb107 := Nat.ne_of_lt (Nat.lt_of_lt_of_le Q123 GW107.out); have hn109_1 : ad106.block ≠ gb107 := Nat.ne_of_lt (Nat.lt_of_lt_of_le Q123 GW107.out); replace hx109_0 := hcI HB hx109_0; replace hx109_1 := hcI HB hx109_1; have HR109_1 := Aside0.mk hi109_1; have HC109_1 := Aside0.mk hl109_1; clear hi109_1 hl109_1; replace hx109_0 := (cell_far (p := ⟨gb107, 0, none⟩) Q124 (.int .i64 ((rd_T80 l1 x33_2).f0))).trans hx109_0; replace hx109_1 := (cell_far (p := ⟨gb107, 0, none⟩) Q124 (.int .i64 ((rd_T80 l1 x33_2).f0))).trans hx109_1; replace hx109_0 := (cell_far (p := ⟨gb107, 1, none⟩) Q125 (.slice A106_1 ((rd_T80 l1 x33_2).f1).length c106_1)).trans hx109_0; replace hx109_1 := (cell_far (p := ⟨gb107, 1, none⟩) Q125 (.slice A106_1 ((rd_T80 l1 x33_2).f1).length c106_1)).trans hx109_1; (try have hy109_0 := fun (n_ : Nat) => (show ((((w21.drewN n_).setCell ⟨gb107, 0, none⟩ (.int .i64 ((rd_T80 l1 x33_2).f0))).setCell ⟨gb107, 1, none⟩ (.slice A106_1 ((rd_T80 l1 x33_2).f1).length c106_1))).cell? _ = some _ from hx109_0)); (try have hy109_1 := fun (n_ : Nat) => (show ((((w21.drewN n_).setCell ⟨gb107, 0, none⟩ (.int .i64 ((rd_T80 l1 x33_2).f0))).setCell ⟨gb107, 1, none⟩ (.slice A106_1 ((rd_T80 l1 x33_2).f1).length c106_1))).cell? _ = some _ from hx109_1)); clear hn109_0 hn109_1; replace p109 := eq_true p109; replace q109 := eq_true q109)); try go_wp2_with (first | (go_at_call 103; (with_reducible refine (impl_isBoxNumber.calls ((rd_T80 l1 x33_2).f0) true _ A23.out).mono ?_); rintro e w' ⟨rfl, ⟨nd, rfl⟩⟩; (try first | exact Q77 | exact Q78); have p109 : 0 ≤ ((ji26) : Int) := odt; have q109 : (ji26) < (l1.length : Int) := odt; obtain ⟨ad109, A109_1, c109_1, e109, hx109_0, hx109_1, hl109_1, hi109_1⟩ := at_T80 HR1.out (ji26) p109 q109; obtain rfl : ad106 = ad109 := (by injection e109); have hn109_0 : ad106.block ≠ gb107 := Nat.ne_of_lt (Nat.lt_of_lt_of_le Q123 GW107.out); have hn109_1 : ad106.block ≠ gb107 := Nat.ne_of_lt (Nat.lt_of_lt_of_le Q123 GW107.out); replace hx109_0 := hcI HB hx109_0; replace hx109_1 := hcI HB hx109_1; have HR109_1 := Aside0.mk hi109_1; have HC109_1 := Aside0.mk hl109_1; clear hi109_1 hl109_1; replace hx109_0 := (cell_far (p := ⟨gb107, 0, none⟩) Q124 (.int .i64 ((rd_T80 l1 x33_2).f0))).trans hx109_0; replace hx109_1 := (cell_far (p := ⟨gb107, 0, none⟩) Q124 (.int .i64 ((rd_T80 l1 x33_2).f0))).trans hx109_1; replace hx109_0 := (cell_far (p := ⟨gb107, 1, none⟩) Q125 (.slice A106_1 ((rd_T80 l1 x33_2).f1).length c106_1)).trans hx109_0; replace hx109_1 := (cell_far (p := ⟨gb107, 1, none⟩) Q125 (.slice A106_1 ((rd_T80 l1 x33_2).f1).length c106_1)).trans hx109_1; (try have hy109_0 := fun (n_ : Nat) => (show ((((w21.drewN n_).setCell ⟨gb107, 0, none⟩ (.int .i64 ((rd_T80 l1 x33_2).f0))).setCell ⟨gb107, 1, none⟩ (.slice A106_1 ((rd_T80 l1 x33_2).f1).length c106_1))).cell? _ = some _ from hx109_0)); (try have hy109_1 := fun (n_ : Nat) => (show ((((w21.drewN n_).setCell ⟨gb107, 0, none⟩ (.int .i64 ((rd_T80 l1 x33_2).f0))).setCell ⟨gb107, 1, none⟩ (.slice A106_1 ((rd_T80 l1 x33_2).f1).length c106_1))).cell? _ = some _ from hx109_1)); clear hn109_0 hn109_1; replace p109 := eq_true p109; replace q109 := eq_true q109)))); (go_meet)
                case rel => exact ⟨_, (decide (((rd_T80 l1 x33_2).f0) ≤ ((rd_T80 l1 (ji26)).f0))), (by first | rfl | (simp; done) | (simp only [← hji26] <;> (first | rfl | simp)) | (simp [*]; done)), H', ⟨Q103⟩, ⟨Q126⟩, ⟨Q127⟩, ⟨Q128⟩⟩
               ·rw [if_neg c28] at H
                exact Q8
              ·rw [if_neg c27] at H
               exact Q8
             ·rw [if_neg c25] at H
              (have c25b0 : decide (0 < x33_2) = false := decide_eq_false c25); clear c25; ((first | rw [c25b0] | (simp only [i64_w, i32_w]; rw [c25b0]) | skip)); (have H' := Aside0.mk H); clear H; (have hcz30_0 := cz BK107.out 0); (have hcz30_1 := cz BK107.out 1); (have hfz30_0 := blk_frozen BK107.out 0); (have hfz30_1 := blk_frozen BK107.out 1); (go_wp2_with (first | (go_at_call 103; (with_reducible refine (impl_isBoxNumber.calls ((rd_T80 l1 x33_2).f0) true _ A23.out).mono ?_); rintro e w' ⟨rfl, ⟨nd, rfl⟩⟩; (try first | exact Q77 | exact Q78)))); (repeat (go_quiet (first | (go_at_call 103; (with_reducible refine (impl_isBoxNumber.calls ((rd_T80 l1 x33_2).f0) true _ A23.out).mono ?_); rintro e w' ⟨rfl, ⟨nd, rfl⟩⟩; (try first | exact Q77 | exact Q78))); try go_wp2_with (first | (go_at_call 103; (with_reducible refine (impl_isBoxNumber.calls ((rd_T80 l1 x33_2).f0) true _ A23.out).mono ?_); rintro e w' ⟨rfl, ⟨nd, rfl⟩⟩; (try first | exact Q77 | exact Q78))))); (go_meet)
              case rel => exact ⟨_, (false), Q6, H', ⟨Q103⟩, ⟨Q126⟩, ⟨Q127⟩, ⟨Q128⟩⟩
            ·replace c24 := Bool.eq_false_iff.mpr c24
             subst c24; (rw [if_neg (show ¬ (false = true) by decide)] at H); (have H' := Aside0.mk H); clear H; (have hcz31_0 := cz BK107.out 0); (have hcz31_1 := cz BK107.out 1); (have hfz31_0 := blk_frozen BK107.out 0); (have hfz31_1 := blk_frozen BK107.out 1); (go_wp2_with (first | (go_at_call 103; (with_reducible refine (impl_isBoxNumber.calls ((rd_T80 l1 x33_2).f0) false _ A23.out).mono ?_); rintro e w' ⟨rfl, ⟨nd, rfl⟩⟩; (try first | exact Q77 | exact Q78)))); (repeat (go_quiet (first | (go_at_call 103; (with_reducible refine (impl_isBoxNumber.calls ((rd_T80 l1 x33_2).f0) false _ A23.out).mono ?_); rintro e w' ⟨rfl, ⟨nd, rfl⟩⟩; (try first | exact Q77 | exact Q78))); try go_wp2_with (first | (go_at_call 103; (with_reducible refine (impl_isBoxNumber.calls ((rd_T80 l1 x33_2).f0) false _ A23.out).mono ?_); rintro e w' ⟨rfl, ⟨nd, rfl⟩⟩; (try first | exact Q77 | exact Q78))))); (go_meet)
             case rel => exact ⟨_, (true), Q6, H', ⟨Q103⟩, ⟨Q126⟩, ⟨Q127⟩, ⟨Q128⟩⟩
           case rest =>
            clear HC20; (try clear c1); (try clear p1); (try clear q1); (try clear hx1); (try clear c2); (try clear p2); (try clear c6); (try clear p6); (try clear c8); (try clear c10); (try clear p10); (try clear q10); (try clear hx10); (try clear c12); (try clear c13); (try clear c13b0); (try clear c13b1); (try clear c14); (try clear c14b0); (try clear c14b1); (try clear c17); (try clear c17b0); (try clear c18); (try clear c18b0); (try clear c19); (try clear c19b0); (try clear c24); (try clear c25); (try clear c25b0); (try clear c27); (try clear c27b0); (try clear c28); (try clear c28b0); (try clear hcz22_0); (try clear hcz22_1); (try clear hcz29_0); (try clear hcz29_1); (try clear hcz30_0); (try clear hcz30_1); (try clear hcz31_0); (try clear hcz31_1); (try clear hfz22_0); (try clear hfz22_1); (try clear hfz29_0); (try clear hfz29_1); (try clear hfz30_0); (try clear hfz30_1); (try clear hfz31_0); (try clear hfz31_1); (try clear hx106_0); (try clear hx106_1); (try clear hx109_0); (try clear hx109_1); (try clear p106); (try clear p109); (try clear p2); (try clear q106); (try clear q109); (obtain ⟨kq, x56_19, rfl, HA, HJ19, HO_8, BK107, HB⟩ := hcut)
            cases kq with
            | zero => exact absurd HA.out (by simp [impl_IsValidArchive.j2])
            | succ kj19 =>
             (have H := HA.out); clear HA; (simp only [impl_IsValidArchive.j2] at H); (by_cases c32 : x56_19 = true); (· subst c32; (rw [if_pos rfl] at H); (obtain rfl := Option.some.inj H); (go_wp2); (repeat (go_quiet (fail); try go_wp2)); go_ret; (exact Q18))
             ·replace c32 := Bool.eq_false_iff.mpr c32
              subst c32; (rw [if_neg (show ¬ (false = true) by decide)] at H); (obtain ⟨y110, hy110⟩ : ∃ y_ : List Int, y_ = (([] : List Int)) := ⟨_, rfl⟩); (replace H : (impl_IsValidArchive.l1 kj19 l0 l1 a2 x7_2 x8_2 y110 l1 (l1.length : Int) x33_2 ((rd_T80 l1 x33_2).f1) (((rd_T80 l1 x33_2).f1).length : Int) 0 ((rd_T80 l1 x33_2).f0) ((rd_T80 l1 x33_2).f1)) = some r := Q39); (have Ny110 := Aside0.mk hy110); clear hy110; (have H' := Aside0.mk H); clear H; (go_wp2_with (first | ((with_reducible refine gate_dst (N := 57) rfl ?_); refine Kd.R_lit (Kd.int .i64) _ 3 ?hg (N := 57) ?hd (xs := ([] : List Int)) (inner := []) (ok := fun _ => True) (okp := fun _ => True) ?hr ?hp (fun _ hk => hk) trivial (Below.refl _ _) (Nat.le_refl _) (by simp) ?_; (case hd => rfl); (case hg => rfl); (case hr => first | (go_simp; done) | (go_simp; rfl)); (case hp => exact Q43); intro v111 w33 ho34 hb hg_ hnew_; clear hg_ hnew_; (first | rw [← Ny110.out] at ho34 | (simp only [Int.reduceToNat] at ho34; rw [← Ny110.out] at ho34)); have n0_ := Aside0.mk (rbI hb HO_8); have hB_ := zI hb HB; have n1_ := Aside0.mk (Kd.R_lower ho34 (below_size hB_)); have n2_ := Aside0.mk (kbI hb BK107); have n3_ := Aside0.mk (below_step hB_ hb); clear HO_8 BK107 HB; have HO_8 := n0_; have HO112 := n1_; have BK107 := n2_; have HB := n3_; clear n0_ n1_ n2_ n3_ hB_ hb ho34; have hcz35_0 := cz BK107.out 0; have hcz35_1 := cz BK107.out 1; have hfz35_0 := blk_frozen BK107.out 0; have hfz35_1 := blk_frozen BK107.out 1))); (repeat (go_quiet (first | ((with_reducible refine gate_dst (N := 57) rfl ?_); refine Kd.R_lit (Kd.int .i64) _ 3 ?hg (N := 57) ?hd (xs := ([] : List Int)) (inner := []) (ok := fun _ => True) (okp := fun _ => True) ?hr ?hp (fun _ hk => hk) trivial (Below.refl _ _) (Nat.le_refl _) (by simp) ?_; (case hd => rfl); (case hg => rfl); (case hr => first | (go_simp; done) | (go_simp; rfl)); (case hp => exact Q43); intro v111 w33 ho34 hb hg_ hnew_; clear hg_ hnew_; (first | rw [← Ny110.out] at ho34 | (simp only [Int.reduceToNat] at ho34; rw [← Ny110.out] at ho34)); have n0_ := Aside0.mk (rbI hb HO_8); have hB_ := zI hb HB; have n1_ := Aside0.mk (Kd.R_lower ho34 (below_size hB_)); have n2_ := Aside0.mk (kbI hb BK107); have n3_ := Aside0.mk (below_step hB_ hb); clear HO_8 BK107 HB; have HO_8 := n0_; have HO112 := n1_; have BK107 := n2_; have HB := n3_; clear n0_ n1_ n2_ n3_ hB_ hb ho34; have hcz35_0 := cz BK107.out 0; have hcz35_1 := cz BK107.out 1; have hfz35_0 := blk_frozen BK107.out 0; have hfz35_1 := blk_frozen BK107.out 1)); try go_wp2_with (first | ((with_reducible refine gate_dst (N := 57) rfl ?_); refine Kd.R_lit (Kd.int .i64) _ 3 ?hg (N := 57) ?hd (xs := ([] : List Int)) (inner := []) (ok := fun _ => True) (okp := fun _ => True) ?hr ?hp (fun _ hk => hk) trivial (Below.refl _ _) (Nat.le_refl _) (by simp) ?_; (case hd => rfl); (case hg => rfl); (case hr => first | (go_simp; done) | (go_simp; rfl)); (case hp => exact Q43); intro v111 w33 ho34 hb hg_ hnew_; clear hg_ hnew_; (first | rw [← Ny110.out] at ho34 | (simp only [Int.reduceToNat] at ho34; rw [← Ny110.out] at ho34)); have n0_ := Aside0.mk (rbI hb HO_8); have hB_ := zI hb HB; have n1_ := Aside0.mk (Kd.R_lower ho34 (below_size hB_)); have n2_ := Aside0.mk (kbI hb BK107); have n3_ := Aside0.mk (below_step hB_ hb); clear HO_8 BK107 HB; have HO_8 := n0_; have HO112 := n1_; have BK107 := n2_; have HB := n3_; clear n0_ n1_ n2_ n3_ hB_ hb ho34; have hcz35_0 := cz BK107.out 0; have hcz35_1 := cz BK107.out 1; have hfz35_0 := blk_frozen BK107.out 0; have hfz35_1 := blk_frozen BK107.out 1)))); (go_loopg [7, 11, 61] kj19 (fun kq v7 v11 v61 w' => ∃ (x7_4 : Int) (x8_4 : List Bool) (x11_4 : List Int) (x61_4 : Int), v7 = .int .i64 x7_4 ∧ v61 = .int .i64 x61_4 ∧ Aside0 (impl_IsValidArchive.l1 kq l0 l1 a2 x7_4 x8_4 x11_4 l1 (l1.length : Int) x33_2 ((rd_T80 l1 x33_2).f1) (((rd_T80 l1 x33_2).f1).length : Int) x61_4 ((rd_T80 l1 x33_2).f0) ((rd_T80 l1 x33_2).f1) = some r) ∧ Aside0 (kq ≤ kj19) ∧ Aside0 (Kd.R Kd.bool 4 w' w.heap.size (fun _ => True) v104 x8_4) ∧ Aside0 (Kd.R (Kd.int .i64) 3 w' w.heap.size (fun _ => True) v11 x11_4) ∧ Aside0 (w'.heap[gb107]? = some (.cells #[.int .i64 ((rd_T80 l1 x33_2).f0), (.slice A106_1 ((rd_T80 l1 x33_2).f1).length c106_1)] 80 (0, 0))) ∧ Aside0 (Below w.heap.size w w')))
              case atStart => exact ⟨(x7_2), (x8_2), (y110), (0), Q6, Q6, H', ⟨Nat.le_refl _⟩, ⟨rI HO_8⟩, ⟨rI HO112⟩, ⟨kI BK107⟩, ⟨eI HB⟩⟩
              case round =>
               (clear H'); (try clear c1); (try clear p1); (try clear q1); (try clear hx1); (try clear c2); (try clear p2); (try clear c3); (try clear c6); (try clear p6); (try clear c8); (try clear c10); (try clear p10); (try clear q10); (try clear hx10); (try clear c12); (try clear c13); (try clear c13b0); (try clear c13b1); (try clear c14); (try clear c14b0); (try clear c14b1); (try clear c17); (try clear c17b0); (try clear c18); (try clear c18b0); (try clear c19); (try clear c19b0); (try clear c24); (try clear c25); (try clear c25b0); (try clear c27); (try clear c27b0); (try clear c28); (try clear c28b0); (try clear c32); (try clear hcz22_0); (try clear hcz22_1); (try clear hcz29_0); (try clear hcz29_1); (try clear hcz30_0); (try clear hcz30_1); (try clear hcz31_0); (try clear hcz31_1); (try clear hcz35_0); (try clear hcz35_1); (try clear hfz22_0); (try clear hfz22_1); (try clear hfz29_0); (try clear hfz29_1); (try clear hfz30_0); (try clear hfz30_1); (try clear hfz31_0); (try clear hfz31_1); (try clear hfz35_0); (try clear hfz35_1); (try clear hx106_0); (try clear hx106_1); (try clear hx109_0); (try clear hx109_1); (try clear p1); (try clear p10); (try clear p106); (try clear p109); (try clear p2); (try clear p6); (try clear q1); (try clear q10); (try clear q106); (try clear q109); (obtain ⟨x7_4, x8_4, x11_4, x61_4, rfl, rfl, HA, HK4, HO_8, HO_11, BK107, HB⟩ := hrel)
               cases gk with
               | zero => exact absurd HA.out (by simp [impl_IsValidArchive.l1])
               | succ k4 =>
                (have H := HA.out); clear HA; (simp only [impl_IsValidArchive.l1] at H); (by_cases c36 : x61_4 < (((rd_T80 l1 x33_2).f1).length : Int))
                ·rw [if_pos c36] at H
                 (have c36b0 := decide_eq_true c36); clear c36; (by_cases c37 : 0 ≤ x61_4)
                 ·rw [if_pos c37] at H
                  (have c37b0 := decide_eq_true c37); clear c37; (by_cases c38 : x61_4 < (((rd_T80 l1 x33_2).f1).length : Int))
                  ·rw [if_pos c38] at H
                   (have c38b0 := decide_eq_true c38); clear c38; (replace H := obS H); (obtain ⟨t114, A39, H⟩ := H); (by_cases c40 : t114 < 0)
                   ·rw [if_pos c40] at H
                    (have c40b0 := decide_eq_true c40); clear c40; (obtain rfl := Option.some.inj H); (have p113 : 0 ≤ (x61_4 : Int) := odt); (have q113 : x61_4 < (((rd_T80 l1 x33_2).f1).length : Int) := odt); (obtain ⟨ad113, e113, hx113_0⟩ := Kd.at_int HR106_1.out x61_4 p113 q113); (cases e113); (replace hx113_0 := hcI HB hx113_0); (replace p113 := eq_true p113); (replace q113 := eq_true q113); (go_wp2_with (first | (go_at_call 55; (with_reducible refine (impl_itemOf.calls _ _ l0 (rd ((rd_T80 l1 x33_2).f1) x61_4) t114 _ ?side1 ?side2 A39.out).mono ?_); (case side1 => exact Q92); (case side2 => exact HC0.out); rintro e w41 ⟨rfl, hb⟩; have n0_ := Aside0.mk (rbI hb HO_8); have n1_ := Aside0.mk (rbI hb HO_11); have n2_ := Aside0.mk (kbI hb BK107); have n3_ := Aside0.mk (sI hb HB); clear HO_8 HO_11 BK107 HB; have HO_8 := n0_; have HO_11 := n1_; have BK107 := n2_; have HB := n3_; clear n0_ n1_ n2_ n3_; (try clear hb); (try clear hb2); (try clear hk); (try clear hi)))); (repeat (go_quiet (first | (go_at_call 55; (with_reducible refine (impl_itemOf.calls _ _ l0 (rd ((rd_T80 l1 x33_2).f1) x61_4) t114 _ ?side1 ?side2 A39.out).mono ?_); (case side1 => exact Q92); (case side2 => exact HC0.out); rintro e w41 ⟨rfl, hb⟩; have n0_ := Aside0.mk (rbI hb HO_8); have n1_ := Aside0.mk (rbI hb HO_11); have n2_ := Aside0.mk (kbI hb BK107); have n3_ := Aside0.mk (sI hb HB); clear HO_8 HO_11 BK107 HB; have HO_8 := n0_; have HO_11 := n1_; have BK107 := n2_; have HB := n3_; clear n0_ n1_ n2_ n3_; (try clear hb); (try clear hb2); (try clear hk); (try clear hi))); try go_wp2_with (first | (go_at_call 55; (with_reducible refine (impl_itemOf.calls _ _ l0 (rd ((rd_T80 l1 x33_2).f1) x61_4) t114 _ ?side1 ?side2 A39.out).mono ?_); (case side1 => exact Q92); (case side2 => exact HC0.out); rintro e w41 ⟨rfl, hb⟩; have n0_ := Aside0.mk (rbI hb HO_8); have n1_ := Aside0.mk (rbI hb HO_11); have n2_ := Aside0.mk (kbI hb BK107); have n3_ := Aside0.mk (sI hb HB); clear HO_8 HO_11 BK107 HB; have HO_8 := n0_; have HO_11 := n1_; have BK107 := n2_; have HB := n3_; clear n0_ n1_ n2_ n3_; (try clear hb); (try clear hb2); (try clear hk); (try clear hi))))); go_ret; (exact Q18)
                   ·rw [if_neg c40] at H
                    (have c40b0 := decide_eq_false c40); clear c40; (by_cases c42 : 0 ≤ t114)
                    ·rw [if_pos c42] at H
                     (have c42b0 := decide_eq_true c42); clear c42; (by_cases c43 : t114 < (x8_4.length : Int))
                     ·rw [if_pos c43] at H
                      (have c43b0 := decide_eq_true c43); clear c43; (obtain ⟨bq44, hbq44⟩ : ∃ b_ : Bool, b_ = (rdOf false x8_4 t114) := ⟨_, rfl⟩); (replace H : (if bq44 = true then (some false) else (if x61_4 > 0 then (if 0 ≤ (wrap64 (x61_4 - 1)) then (if (wrap64 (x61_4 - 1)) < (((rd_T80 l1 x33_2).f1).length : Int) then (if (rd ((rd_T80 l1 x33_2).f1) x61_4) ≤ (rd ((rd_T80 l1 x33_2).f1) (wrap64 (x61_4 - 1))) then (some false) else ((impl_fits.f k4 l0 x11_4 t114 a2).bind fun t117 => (if t117 = true then (if x11_4.length < 17592186044416 then (impl_IsValidArchive.l1 k4 l0 l1 a2 (wrap64 (x7_4 + 1)) (x8_4.set (t114 : Int).toNat true) (x11_4 ++ [t114]) l1 (l1.length : Int) x33_2 ((rd_T80 l1 x33_2).f1) (((rd_T80 l1 x33_2).f1).length : Int) (wrap64 (x61_4 + 1)) ((rd_T80 l1 x33_2).f0) ((rd_T80 l1 x33_2).f1)) else (none)) else (some false)))) else (none)) else (none)) else ((impl_fits.f k4 l0 x11_4 t114 a2).bind fun t122 => (if t122 = true then (if x11_4.length < 17592186044416 then (impl_IsValidArchive.l1 k4 l0 l1 a2 (wrap64 (x7_4 + 1)) (x8_4.set (t114 : Int).toNat true) (x11_4 ++ [t114]) l1 (l1.length : Int) x33_2 ((rd_T80 l1 x33_2).f1) (((rd_T80 l1 x33_2).f1).length : Int) (wrap64 (x61_4 + 1)) ((rd_T80 l1 x33_2).f0) ((rd_T80 l1 x33_2).f1)) else (none)) else (some false))))) = some r := by rw [← hbq44] at H; exact H); (have Nbq44 := Aside0.mk hbq44); clear hbq44; (by_cases c45 : bq44 = true)
                      ·subst c45
                       (rw [if_pos rfl] at H); (obtain rfl := Option.some.inj H); (have p113 : 0 ≤ (x61_4 : Int) := odt); (have q113 : x61_4 < (((rd_T80 l1 x33_2).f1).length : Int) := odt); (obtain ⟨ad113, e113, hx113_0⟩ := Kd.at_int HR106_1.out x61_4 p113 q113); (cases e113); (replace hx113_0 := hcI HB hx113_0); (replace p113 := eq_true p113); (replace q113 := eq_true q113); (go_wp2_with (first | (go_at_call 55; (with_reducible refine (impl_itemOf.calls _ _ l0 (rd ((rd_T80 l1 x33_2).f1) x61_4) t114 _ ?side1 ?side2 A39.out).mono ?_); (case side1 => exact Q92); (case side2 => exact HC0.out); rintro e w46 ⟨rfl, hb⟩; have n0_ := Aside0.mk (rbI hb HO_8); have n1_ := Aside0.mk (rbI hb HO_11); have n2_ := Aside0.mk (kbI hb BK107); have n3_ := Aside0.mk (sI hb HB); clear HO_8 HO_11 BK107 HB; have HO_8 := n0_; have HO_11 := n1_; have BK107 := n2_; have HB := n3_; clear n0_ n1_ n2_ n3_; (try clear hb); (try clear hb2); (try clear hk); (try clear hi); obtain ⟨Ao47, co47, eo47⟩ := Kd.R_slice HO_8.out; subst eo47; have p115 : 0 ≤ (t114 : Int) := odt; have q115 : t114 < (x8_4.length : Int) := odt; obtain ⟨ad115, e115, hx115_0⟩ := Kd.at_bool (Kd.R_reads' HO_8.out).2.2 t114 p115 q115; (try rw [← Nbq44.out] at hx115_0); cases e115; replace p115 := eq_true p115; replace q115 := eq_true q115))); (repeat (go_quiet (first | (go_at_call 55; (with_reducible refine (impl_itemOf.calls _ _ l0 (rd ((rd_T80 l1 x33_2).f1) x61_4) t114 _ ?side1 ?side2 A39.out).mono ?_); (case side1 => exact Q92); (case side2 => exact HC0.out); rintro e w46 ⟨rfl, hb⟩; have n0_ := Aside0.mk (rbI hb HO_8); have n1_ := Aside0.mk (rbI hb HO_11); have n2_ := Aside0.mk (kbI hb BK107); have n3_ := Aside0.mk (sI hb HB); clear HO_8 HO_11 BK107 HB; have HO_8 := n0_; have HO_11 := n1_; have BK107 := n2_; have HB := n3_; clear n0_ n1_ n2_ n3_; (try clear hb); (try clear hb2); (try clear hk); (try clear hi); obtain ⟨Ao47, co47, eo47⟩ := Kd.R_slice HO_8.out; subst eo47; have p115 : 0 ≤ (t114 : Int) := odt; have q115 : t114 < (x8_4.length : Int) := odt; obtain ⟨ad115, e115, hx115_0⟩ := Kd.at_bool (Kd.R_reads' HO_8.out).2.2 t114 p115 q115; (try rw [← Nbq44.out] at hx115_0); cases e115; replace p115 := eq_true p115; replace q115 := eq_true q115)); try go_wp2_with (first | (go_at_call 55; (with_reducible refine (impl_itemOf.calls _ _ l0 (rd ((rd_T80 l1 x33_2).f1) x61_4) t114 _ ?side1 ?side2 A39.out).mono ?_); (case side1 => exact Q92); (case side2 => exact HC0.out); rintro e w46 ⟨rfl, hb⟩; have n0_ := Aside0.mk (rbI hb HO_8); have n1_ := Aside0.mk (rbI hb HO_11); have n2_ := Aside0.mk (kbI hb BK107); have n3_ := Aside0.mk (sI hb HB); clear HO_8 HO_11 BK107 HB; have HO_8 := n0_; have HO_11 := n1_; have BK107 := n2_; have HB := n3_; clear n0_ n1_ n2_ n3_; (try clear hb); (try clear hb2); (try clear hk); (try clear hi); obtain ⟨Ao47, co47, eo47⟩ := Kd.R_slice HO_8.out; subst eo47; have p115 : 0 ≤ (t114 : Int) := odt; have q115 : t114 < (x8_4.length : Int) := odt; obtain ⟨ad115, e115, hx115_0⟩ := Kd.at_bool (Kd.R_reads' HO_8.out).2.2 t114 p115 q115; (try rw [← Nbq44.out] at hx115_0); cases e115; replace p115 := eq_true p115; replace q115 := eq_true q115)))); go_ret
                       exact Q18
                      ·replace c45 := Bool.eq_false_iff.mpr c45
                       subst c45; (rw [if_neg (show ¬ (false = true) by decide)] at H); (by_cases c48 : x61_4 > 0)
                       ·rw [if_pos c48] at H
                        (have c48b0 : decide (0 < x61_4) = true := decide_eq_true c48); clear c48; (obtain ⟨ji49, hji49⟩ : ∃ j_ : Int, (wrap64 (x61_4 - 1)) = j_ := ⟨_, rfl⟩); (replace H : (if 0 ≤ (ji49) then (if (ji49) < (((rd_T80 l1 x33_2).f1).length : Int) then (if (rd ((rd_T80 l1 x33_2).f1) x61_4) ≤ (rd ((rd_T80 l1 x33_2).f1) (ji49)) then (some false) else ((impl_fits.f k4 l0 x11_4 t114 a2).bind fun t117 => (if t117 = true then (if x11_4.length < 17592186044416 then (impl_IsValidArchive.l1 k4 l0 l1 a2 (wrap64 (x7_4 + 1)) (x8_4.set (t114 : Int).toNat true) (x11_4 ++ [t114]) l1 (l1.length : Int) x33_2 ((rd_T80 l1 x33_2).f1) (((rd_T80 l1 x33_2).f1).length : Int) (wrap64 (x61_4 + 1)) ((rd_T80 l1 x33_2).f0) ((rd_T80 l1 x33_2).f1)) else (none)) else (some false)))) else (none)) else (none)) = some r := by first | (rw [hji49] at H; exact H) | (simp only [hji49] at H ⊢; exact H)); ((try rw [hji49] at A39)); (have hji49w : (IntKind.i64.wrap (x61_4 - 1)) = ji49 := (i64_w _).trans hji49); (by_cases c50 : 0 ≤ (ji49))
                        ·rw [if_pos c50] at H
                         (have c50b0 := decide_eq_true c50); clear c50; (by_cases c51 : (ji49) < (((rd_T80 l1 x33_2).f1).length : Int))
                         ·rw [if_pos c51] at H
                          (have c51b0 := decide_eq_true c51); clear c51; (by_cases c52 : (rd ((rd_T80 l1 x33_2).f1) x61_4) ≤ (rd ((rd_T80 l1 x33_2).f1) (ji49)))
                          ·rw [if_pos c52] at H
                           (have c52b0 := decide_eq_true c52); clear c52; (obtain rfl := Option.some.inj H); (have p113 : 0 ≤ (x61_4 : Int) := odt); (have q113 : x61_4 < (((rd_T80 l1 x33_2).f1).length : Int) := odt); (obtain ⟨ad113, e113, hx113_0⟩ := Kd.at_int HR106_1.out x61_4 p113 q113); (cases e113); (replace hx113_0 := hcI HB hx113_0); (replace p113 := eq_true p113); (replace q113 := eq_true q113); (go_wp2_with (first | (go_at_call 55; (with_reducible refine (impl_itemOf.calls _ _ l0 (rd ((rd_T80 l1 x33_2).f1) x61_4) t114 _ ?side1 ?side2 A39.out).mono ?_); (case side1 => exact Q92); (case side2 => exact HC0.out); rintro e w53 ⟨rfl, hb⟩; have n0_ := Aside0.mk (rbI hb HO_8); have n1_ := Aside0.mk (rbI hb HO_11); have n2_ := Aside0.mk (kbI hb BK107); have n3_ := Aside0.mk (sI hb HB); clear HO_8 HO_11 BK107 HB; have HO_8 := n0_; have HO_11 := n1_; have BK107 := n2_; have HB := n3_; clear n0_ n1_ n2_ n3_; (try clear hb); (try clear hb2); (try clear hk); (try clear hi); obtain ⟨Ao54, co54, eo54⟩ := Kd.R_slice HO_8.out; subst eo54; have p115 : 0 ≤ (t114 : Int) := odt; have q115 : t114 < (x8_4.length : Int) := odt; obtain ⟨ad115, e115, hx115_0⟩ := Kd.at_bool (Kd.R_reads' HO_8.out).2.2 t114 p115 q115; (try rw [← Nbq44.out] at hx115_0); cases e115; replace p115 := eq_true p115; replace q115 := eq_true q115; have hcz55_0 := cz BK107.out 0; have hcz55_1 := cz BK107.out 1; have hfz55_0 := blk_frozen BK107.out 0; have hfz55_1 := blk_frozen BK107.out 1; have p116 : 0 ≤ ((ji49) : Int) := odt; have q116 : (ji49) < (((rd_T80 l1 x33_2).f1).length : Int) := odt; obtain ⟨ad116, e116, hx116_0⟩ := Kd.at_int HR106_1.out (ji49) p116 q116; obtain rfl : ad113 = ad116 := Q129; replace hx116_0 := hcI HB hx116_0; replace p116 := eq_true p116; replace q116 := eq_true q116)))
                           (repeat (go_quiet (first | (go_at_call 55; (with_reducible refine (impl_itemOf.calls _ _ l0 (rd ((rd_T80 l1 x33_2).f1) x61_4) t114 _ ?side1 ?side2 A39.out).mono ?_); (case side1 => exact Q92); (case side2 => exact HC0.out); rintro e w53 ⟨rfl, hb⟩; have n0_ := Aside0.mk (rbI hb HO_8); have n1_ := Aside0.mk (rbI hb HO_11); have n2_ := Aside0.mk (kbI hb BK107); have n3_ := Aside0.mk (sI hb HB); clear HO_8 HO_11 BK107 HB; have HO_8 := n0_; have HO_11 := n1_; have BK107 := n2_; have HB := n3_; clear n0_ n1_ n2_ n3_; (try clear hb); (try clear hb2); (try clear hk); (try clear hi); obtain ⟨Ao54, co54, eo54⟩ := Kd.R_slice HO_8.out; subst eo54; have p115 : 0 ≤ (t114 : Int) := odt; have q115 : t114 < (x8_4.length : Int) := odt; obtain ⟨ad115, e115, hx115_0⟩ := Kd.at_bool (Kd.R_reads' HO_8.out).2.2 t114 p115 q115; (try rw [← Nbq44.out] at hx115_0); cases e115; replace p115 := eq_true p115; replace q115 := eq_true q115; have hcz55_0 := cz BK107.out 0; have hcz55_1 := cz BK107.out 1; have hfz55_0 := blk_frozen BK107.out 0; have hfz55_1 := blk_frozen BK107.out 1; have p116 : 0 ≤ ((ji49) : Int) := odt; have q116 : (ji49) < (((rd_T80 l1 x33_2).f1).length : Int) := odt; obtain ⟨ad116, e116, hx116_0⟩ := Kd.at_int HR106_1.out (ji49) p116 q116; obtain rfl : ad113 = ad116 := Q129; replace hx116_0 := hcI HB hx116_0; replace p116 := eq_true p116; replace q116 := eq_true q116)); try go_wp2_with (first | (go_at_call 55; (with_reducible refine (impl_itemOf.calls _ _ l0 (rd ((rd_T80 l1 x33_2).f1) x61_4) t114 _ ?side1 ?side2 A39.out).mono ?_); (case side1 => exact Q92); (case side2 => exact HC0.out); rintro e w53 ⟨rfl, hb⟩; have n0_ := Aside0.mk (rbI hb HO_8); have n1_ := Aside0.mk (rbI hb HO_11); have n2_ := Aside0.mk (kbI hb BK107); have n3_ := Aside0.mk (sI hb HB); clear HO_8 HO_11 BK107 HB; have HO_8 := n0_; have HO_11 := n1_; have BK107 := n2_; have HB := n3_; clear n0_ n1_ n2_ n3_; (try clear hb); (try clear hb2); (try clear hk); (try clear hi); obtain ⟨Ao54, co54, eo54⟩ := Kd.R_slice HO_8.out; subst eo54; have p115 : 0 ≤ (t114 : Int) := odt; have q115 : t114 < (x8_4.length : Int) := odt; obtain ⟨ad115, e115, hx115_0⟩ := Kd.at_bool (Kd.R_reads' HO_8.out).2.2 t114 p115 q115; (try rw [← Nbq44.out] at hx115_0); cases e115; replace p115 := eq_true p115; replace q115 := eq_true q115; have hcz55_0 := cz BK107.out 0; have hcz55_1 := cz BK107.out 1; have hfz55_0 := blk_frozen BK107.out 0; have hfz55_1 := blk_frozen BK107.out 1; have p116 : 0 ≤ ((ji49) : Int) := odt; have q116 : (ji49) < (((rd_T80 l1 x33_2).f1).length : Int) := odt; obtain ⟨ad116, e116, hx116_0⟩ := Kd.at_int HR106_1.out (ji49) p116 q116; obtain rfl : ad113 = ad116 := Q129; replace hx116_0 := hcI HB hx116_0; replace p116 := eq_true p116; replace q116 := eq_true q116)))); go_ret; (exact Q130)
                          ·rw [if_neg c52] at H
                           (have c52b0 := decide_eq_false c52); clear c52; (replace H := obS H); (obtain ⟨t117, A56, H⟩ := H); (by_cases c57 : t117 = true)
                           ·subst c57
                            (rw [if_pos rfl] at H); (obtain ⟨y118, hy118⟩ : ∃ y_ : List Bool, y_ = (x8_4.set (t114 : Int).toNat true) := ⟨_, rfl⟩); (replace H : (if x11_4.length < 17592186044416 then (impl_IsValidArchive.l1 k4 l0 l1 a2 (wrap64 (x7_4 + 1)) y118 (x11_4 ++ [t114]) l1 (l1.length : Int) x33_2 ((rd_T80 l1 x33_2).f1) (((rd_T80 l1 x33_2).f1).length : Int) (wrap64 (x61_4 + 1)) ((rd_T80 l1 x33_2).f0) ((rd_T80 l1 x33_2).f1)) else (none)) = some r := by first | (rw [hy118]; with_reducible exact H) | (have H2_ := (Option.bind_some _ _).symm.trans H; rw [hy118]; with_reducible exact H2_) | (have H2_ := (Option.bind_some _ _).symm.trans H; with_reducible exact H2_) | with_reducible exact H | (rw [hy118]; exact H) | exact H); (have Ny118 := Aside0.mk hy118); clear hy118; (by_cases c59 : x11_4.length < 17592186044416)
                            ·rw [if_pos c59] at H
                             (have LMc59 := Aside0.mk c59); clear c59; (obtain ⟨y119, hy119⟩ : ∃ y_ : List Int, y_ = (x11_4 ++ [t114]) := ⟨_, rfl⟩); (replace H : (impl_IsValidArchive.l1 k4 l0 l1 a2 (wrap64 (x7_4 + 1)) y118 y119 l1 (l1.length : Int) x33_2 ((rd_T80 l1 x33_2).f1) (((rd_T80 l1 x33_2).f1).length : Int) (wrap64 (x61_4 + 1)) ((rd_T80 l1 x33_2).f0) ((rd_T80 l1 x33_2).f1)) = some r := Q41); (have Ny119 := Aside0.mk hy119); clear hy119; (have H' := Aside0.mk H); clear H; (have p113 : 0 ≤ (x61_4 : Int) := odt); (have q113 : x61_4 < (((rd_T80 l1 x33_2).f1).length : Int) := odt); (obtain ⟨ad113, e113, hx113_0⟩ := Kd.at_int HR106_1.out x61_4 p113 q113); (cases e113); (replace hx113_0 := hcI HB hx113_0); (replace p113 := eq_true p113); (replace q113 := eq_true q113)
                             go_wp2_with (first | (go_at_call 55; (with_reducible refine (impl_itemOf.calls _ _ l0 (rd ((rd_T80 l1 x33_2).f1) x61_4) t114 _ ?side1 ?side2 A39.out).mono ?_); (case side1 => exact Q92); (case side2 => exact HC0.out); rintro e w60 ⟨rfl, hb⟩; have n0_ := Aside0.mk (rbI hb HO_8); have n1_ := Aside0.mk (rbI hb HO_11); have n2_ := Aside0.mk (kbI hb BK107); have n3_ := Aside0.mk (sI hb HB); clear HO_8 HO_11 BK107 HB; have HO_8 := n0_; have HO_11 := n1_; have BK107 := n2_; have HB := n3_; clear n0_ n1_ n2_ n3_; (try clear hb); (try clear hb2); (try clear hk); (try clear hi); obtain ⟨Ao61, co61, eo61⟩ := Kd.R_slice HO_8.out; subst eo61; have p115 : 0 ≤ (t114 : Int) := odt; have q115 : t114 < (x8_4.length : Int) := odt; obtain ⟨ad115, e115, hx115_0⟩ := Kd.at_bool (Kd.R_reads' HO_8.out).2.2 t114 p115 q115; (try rw [← Nbq44.out] at hx115_0); cases e115; replace p115 := eq_true p115; replace q115 := eq_true q115; have hcz62_0 := cz BK107.out 0; have hcz62_1 := cz BK107.out 1; have hfz62_0 := blk_frozen BK107.out 0; have hfz62_1 := blk_frozen BK107.out 1; have p116 : 0 ≤ ((ji49) : Int) := odt; have q116 : (ji49) < (((rd_T80 l1 x33_2).f1).length : Int) := odt; obtain ⟨ad116, e116, hx116_0⟩ := Kd.at_int HR106_1.out (ji49) p116 q116; obtain rfl : ad113 = ad116 := Q129; replace hx116_0 := hcI HB hx116_0; replace p116 := eq_true p116; replace q116 := eq_true q116; obtain ⟨Ao63, co63, eo63⟩ := Kd.R_slice HO_11.out; subst eo63) | (go_at_call 78; (with_reducible refine (impl_fits.calls k4 _ _ l0 _ _ x11_4 t114 a2 true _ ?side1 ?side2 ?side3 ?side4 A56.out).mono ?_); (case side1 => exact Q92); (case side2 => exact HC0.out); (case side3 => repeat (first | exact Q131 | (with_reducible first | refine cA ?_ _ | refine cN ?_ _ | refine cD ?_))); (case side4 => exact Q132); rintro e w' ⟨rfl, ⟨nd, rfl⟩⟩; (try first | exact Q77 | exact Q78); have p58 : 0 ≤ (t114 : Int) := odt; have q58 : (t114 : Int) < ((x8_4.length : Int) : Int) := odt; obtain ⟨go58, co58, eo58, gb58, gl58, cl58, HG58⟩ := Kd.R_form HO_8.out (by omega); (first | cases eo58 | (injection eo58 with ea_ en_ ec_; (first | subst ea_ | (injection ea_ with ea_; subst ea_)); subst ec_; clear en_)); have GB58 := Aside0.mk gb58; have GG58 := Aside0.mk HG58; clear gb58 gl58 HG58; (first | simp only [add_plain] at hx115_0 | skip); obtain ⟨hx58_0, hf58_0⟩ := Kd.R_celln false HO_8.out (t114 : Int) p58 q58; replace p58 := eq_true p58; replace q58 := eq_true q58; obtain ⟨hy64_, hz64_⟩ := Kd.R_celln false HO_8.out (t114 : Int) odt odt; have HP64 := Kd.R_putg HO_8.out (t114 : Int) true) | ((with_reducible refine gate_store (t := 4) (p := 101) rfl ?_); (try (rw [drewN_self w60]; generalize hq_ : World.drewN w60 _ = w60; have n0_ := Aside0.mk (Kd.R_at hq_ HO_8.out); have n1_ := Aside0.mk (Kd.R_at hq_ HO_11.out); have n2_ := Aside0.mk (blk_at hq_ BK107.out); have n3_ := Aside0.mk (below_at hq_ HB.out); clear hq_ HO_8 HO_11 BK107 HB; have HO_8 := n0_; have HO_11 := n1_; have BK107 := n2_; have HB := n3_; clear n0_ n1_ n2_ n3_; (try (obtain ⟨hy64_, hz64_⟩ := Kd.R_celln false HO_8.out (t114 : Int) odt odt)); (try (have HP64 := Kd.R_putg HO_8.out (t114 : Int) true)))); refine store_event (t := 4) (p := 101) (v := ?vo_w65) (w1 := (w60.setCell ⟨go58, (t114 : Int).toNat, none⟩ (.bool true))) ?hg ?ho ?hn ?hr ?_; (case ho => rfl); (case hg => rfl); (case hn => rfl); (case hr => first | (go_simp; done) | (go_simp; rfl)); intro w65 hw; have hg : w60.grownBy w65 (some go58) := (by rw [hw]; exact HP64.2); have hp_ : Kd.R Kd.bool 4 w65 w.heap.size (fun _ => True) (.slice (some ⟨go58, 0, none⟩) x8_4.length co61) y118 := Q133; clear HP64; have n0_ := Aside0.mk (hp_); have n1_ := Aside0.mk (Kd.R_over' (v := (.slice (some ⟨go58, 0, none⟩) x8_4.length co61)) (rI HO_11) (Kd.R_typed HO_8.out) (by decide) hg); have n2_ := Aside0.mk (blk_grown (kI BK107) hg (Kd.R_ne HO_8.out BK107.out (by decide))); have n3_ := Aside0.mk ((Q134 : Below w.heap.size w w65)); clear HO_8 HO_11 BK107 HB; have HO_8 := n0_; have HO_11 := n1_; have BK107 := n2_; have HB := n3_; clear n0_ n1_ n2_ n3_ hg hw hp_) | ((with_reducible refine gate_builtin (b := .append) (xs := #[.tmp 102, .tmp 104]) rfl ?_); at_builtin; refine Kd.R_append (Kd.int .i64) (w0 := w) w.heap.size rfl (.tmp 102) (.tmp 104) 26 3 (.int .i64 0) 8 rfl Try.underlying26 info3 rfl (by decide) (by omega) (.slice Ao63 x11_4.length co63) x11_4 t114 [.int .i64 t114] (fun _ => True) (fun _ => False) rfl rfl ?aP (fun _ hk => hk.elim) ?aF ?aO ?aB ?aS ?aL ?_; (case aP => exact rfl); (case aB => exact (eI HB)); (case aF => exact Q116); (case aO => exact (rI HO_11)); (case aS => exact Q135); (case aL => have := LMc59.out; omega); intro v120 w66 ho hb hg hat; rw [← Ny119.out] at ho; have n0_ := Aside0.mk (Kd.R_over' (rI HO_8) (Kd.R_typed (rI HO_11)) (by decide) hg); have n1_ := Aside0.mk (blk_grown (kI BK107) hg (Kd.R_ne HO_11.out BK107.out (by decide))); have n2_ := Aside0.mk (hb); have n3_ := Aside0.mk (ho); clear HO_8 BK107 HB HO_11; have HO_8 := n0_; have BK107 := n1_; have HB := n2_; have HO121 := n3_; clear n0_ n1_ n2_ n3_ ho hb hg hat))
                             repeat (go_quiet (first | (go_at_call 55; (with_reducible refine (impl_itemOf.calls _ _ l0 (rd ((rd_T80 l1 x33_2).f1) x61_4) t114 _ ?side1 ?side2 A39.out).mono ?_); (case side1 => exact Q92); (case side2 => exact HC0.out); rintro e w60 ⟨rfl, hb⟩; have n0_ := Aside0.mk (rbI hb HO_8); have n1_ := Aside0.mk (rbI hb HO_11); have n2_ := Aside0.mk (kbI hb BK107); have n3_ := Aside0.mk (sI hb HB); clear HO_8 HO_11 BK107 HB; have HO_8 := n0_; have HO_11 := n1_; have BK107 := n2_; have HB := n3_; clear n0_ n1_ n2_ n3_; (try clear hb); (try clear hb2); (try clear hk); (try clear hi); obtain ⟨Ao61, co61, eo61⟩ := Kd.R_slice HO_8.out; subst eo61; have p115 : 0 ≤ (t114 : Int) := odt; have q115 : t114 < (x8_4.length : Int) := odt; obtain ⟨ad115, e115, hx115_0⟩ := Kd.at_bool (Kd.R_reads' HO_8.out).2.2 t114 p115 q115; (try rw [← Nbq44.out] at hx115_0); cases e115; replace p115 := eq_true p115; replace q115 := eq_true q115; have hcz62_0 := cz BK107.out 0; have hcz62_1 := cz BK107.out 1; have hfz62_0 := blk_frozen BK107.out 0; have hfz62_1 := blk_frozen BK107.out 1; have p116 : 0 ≤ ((ji49) : Int) := odt; have q116 : (ji49) < (((rd_T80 l1 x33_2).f1).length : Int) := odt; obtain ⟨ad116, e116, hx116_0⟩ := Kd.at_int HR106_1.out (ji49) p116 q116; obtain rfl : ad113 = ad116 := Q129; replace hx116_0 := hcI HB hx116_0; replace p116 := eq_true p116; replace q116 := eq_true q116; obtain ⟨Ao63, co63, eo63⟩ := Kd.R_slice HO_11.out; subst eo63) | (go_at_call 78; (with_reducible refine (impl_fits.calls k4 _ _ l0 _ _ x11_4 t114 a2 true _ ?side1 ?side2 ?side3 ?side4 A56.out).mono ?_); (case side1 => exact Q92); (case side2 => exact HC0.out); (case side3 => repeat (first | exact Q131 | (with_reducible first | refine cA ?_ _ | refine cN ?_ _ | refine cD ?_))); (case side4 => exact Q132); rintro e w' ⟨rfl, ⟨nd, rfl⟩⟩; (try first | exact Q77 | exact Q78); have p58 : 0 ≤ (t114 : Int) := odt; have q58 : (t114 : Int) < ((x8_4.length : Int) : Int) := odt; obtain ⟨go58, co58, eo58, gb58, gl58, cl58, HG58⟩ := Kd.R_form HO_8.out (by omega); (first | cases eo58 | (injection eo58 with ea_ en_ ec_; (first | subst ea_ | (injection ea_ with ea_; subst ea_)); subst ec_; clear en_)); have GB58 := Aside0.mk gb58; have GG58 := Aside0.mk HG58; clear gb58 gl58 HG58; (first | simp only [add_plain] at hx115_0 | skip); obtain ⟨hx58_0, hf58_0⟩ := Kd.R_celln false HO_8.out (t114 : Int) p58 q58; replace p58 := eq_true p58; replace q58 := eq_true q58; obtain ⟨hy64_, hz64_⟩ := Kd.R_celln false HO_8.out (t114 : Int) odt odt; have HP64 := Kd.R_putg HO_8.out (t114 : Int) true) | ((with_reducible refine gate_store (t := 4) (p := 101) rfl ?_); (try (rw [drewN_self w60]; generalize hq_ : World.drewN w60 _ = w60; have n0_ := Aside0.mk (Kd.R_at hq_ HO_8.out); have n1_ := Aside0.mk (Kd.R_at hq_ HO_11.out); have n2_ := Aside0.mk (blk_at hq_ BK107.out); have n3_ := Aside0.mk (below_at hq_ HB.out); clear hq_ HO_8 HO_11 BK107 HB; have HO_8 := n0_; have HO_11 := n1_; have BK107 := n2_; have HB := n3_; clear n0_ n1_ n2_ n3_; (try (obtain ⟨hy64_, hz64_⟩ := Kd.R_celln false HO_8.out (t114 : Int) odt odt)); (try (have HP64 := Kd.R_putg HO_8.out (t114 : Int) true)))); refine store_event (t := 4) (p := 101) (v := ?vo_w65) (w1 := (w60.setCell ⟨go58, (t114 : Int).toNat, none⟩ (.bool true))) ?hg ?ho ?hn ?hr ?_; (case ho => rfl); (case hg => rfl); (case hn => rfl); (case hr => first | (go_simp; done) | (go_simp; rfl)); intro w65 hw; have hg : w60.grownBy w65 (some go58) := (by rw [hw]; exact HP64.2); have hp_ : Kd.R Kd.bool 4 w65 w.heap.size (fun _ => True) (.slice (some ⟨go58, 0, none⟩) x8_4.length co61) y118 := Q133; clear HP64; have n0_ := Aside0.mk (hp_); have n1_ := Aside0.mk (Kd.R_over' (v := (.slice (some ⟨go58, 0, none⟩) x8_4.length co61)) (rI HO_11) (Kd.R_typed HO_8.out) (by decide) hg); have n2_ := Aside0.mk (blk_grown (kI BK107) hg (Kd.R_ne HO_8.out BK107.out (by decide))); have n3_ := Aside0.mk ((Q134 : Below w.heap.size w w65)); clear HO_8 HO_11 BK107 HB; have HO_8 := n0_; have HO_11 := n1_; have BK107 := n2_; have HB := n3_; clear n0_ n1_ n2_ n3_ hg hw hp_) | ((with_reducible refine gate_builtin (b := .append) (xs := #[.tmp 102, .tmp 104]) rfl ?_); at_builtin; refine Kd.R_append (Kd.int .i64) (w0 := w) w.heap.size rfl (.tmp 102) (.tmp 104) 26 3 (.int .i64 0) 8 rfl Try.underlying26 info3 rfl (by decide) (by omega) (.slice Ao63 x11_4.length co63) x11_4 t114 [.int .i64 t114] (fun _ => True) (fun _ => False) rfl rfl ?aP (fun _ hk => hk.elim) ?aF ?aO ?aB ?aS ?aL ?_; (case aP => exact rfl); (case aB => exact (eI HB)); (case aF => exact Q116); (case aO => exact (rI HO_11)); (case aS => exact Q135); (case aL => have := LMc59.out; omega); intro v120 w66 ho hb hg hat; rw [← Ny119.out] at ho; have n0_ := Aside0.mk (Kd.R_over' (rI HO_8) (Kd.R_typed (rI HO_11)) (by decide) hg); have n1_ := Aside0.mk (blk_grown (kI BK107) hg (Kd.R_ne HO_11.out BK107.out (by decide))); have n2_ := Aside0.mk (hb); have n3_ := Aside0.mk (ho); clear HO_8 BK107 HB HO_11; have HO_8 := n0_; have BK107 := n1_; have HB := n2_; have HO121 := n3_; clear n0_ n1_ n2_ n3_ ho hb hg hat)); try go_wp2_with (first | (go_at_call 55; (with_reducible refine (impl_itemOf.calls _ _ l0 (rd ((rd_T80 l1 x33_2).f1) x61_4) t114 _ ?side1 ?side2 A39.out).mono ?_); (case side1 => exact Q92); (case side2 => exact HC0.out); rintro e w60 ⟨rfl, hb⟩; have n0_ := Aside0.mk (rbI hb HO_8); have n1_ := Aside0.mk (rbI hb HO_11); have n2_ := Aside0.mk (kbI hb BK107); have n3_ := Aside0.mk (sI hb HB); clear HO_8 HO_11 BK107 HB; have HO_8 := n0_; have HO_11 := n1_; have BK107 := n2_; have HB := n3_; clear n0_ n1_ n2_ n3_; (try clear hb); (try clear hb2); (try clear hk); (try clear hi); obtain ⟨Ao61, co61, eo61⟩ := Kd.R_slice HO_8.out; subst eo61; have p115 : 0 ≤ (t114 : Int) := odt; have q115 : t114 < (x8_4.length : Int) := odt; obtain ⟨ad115, e115, hx115_0⟩ := Kd.at_bool (Kd.R_reads' HO_8.out).2.2 t114 p115 q115; (try rw [← Nbq44.out] at hx115_0); cases e115; replace p115 := eq_true p115; replace q115 := eq_true q115; have hcz62_0 := cz BK107.out 0; have hcz62_1 := cz BK107.out 1; have hfz62_0 := blk_frozen BK107.out 0; have hfz62_1 := blk_frozen BK107.out 1; have p116 : 0 ≤ ((ji49) : Int) := odt; have q116 : (ji49) < (((rd_T80 l1 x33_2).f1).length : Int) := odt; obtain ⟨ad116, e116, hx116_0⟩ := Kd.at_int HR106_1.out (ji49) p116 q116; obtain rfl : ad113 = ad116 := Q129; replace hx116_0 := hcI HB hx116_0; replace p116 := eq_true p116; replace q116 := eq_true q116; obtain ⟨Ao63, co63, eo63⟩ := Kd.R_slice HO_11.out; subst eo63) | (go_at_call 78; (with_reducible refine (impl_fits.calls k4 _ _ l0 _ _ x11_4 t114 a2 true _ ?side1 ?side2 ?side3 ?side4 A56.out).mono ?_); (case side1 => exact Q92); (case side2 => exact HC0.out); (case side3 => repeat (first | exact Q131 | (with_reducible first | refine cA ?_ _ | refine cN ?_ _ | refine cD ?_))); (case side4 => exact Q132); rintro e w' ⟨rfl, ⟨nd, rfl⟩⟩; (try first | exact Q77 | exact Q78); have p58 : 0 ≤ (t114 : Int) := odt; have q58 : (t114 : Int) < ((x8_4.length : Int) : Int) := odt; obtain ⟨go58, co58, eo58, gb58, gl58, cl58, HG58⟩ := Kd.R_form HO_8.out (by omega); (first | cases eo58 | (injection eo58 with ea_ en_ ec_; (first | subst ea_ | (injection ea_ with ea_; subst ea_)); subst ec_; clear en_)); have GB58 := Aside0.mk gb58; have GG58 := Aside0.mk HG58; clear gb58 gl58 HG58; (first | simp only [add_plain] at hx115_0 | skip); obtain ⟨hx58_0, hf58_0⟩ := Kd.R_celln false HO_8.out (t114 : Int) p58 q58; replace p58 := eq_true p58; replace q58 := eq_true q58; obtain ⟨hy64_, hz64_⟩ := Kd.R_celln false HO_8.out (t114 : Int) odt odt; have HP64 := Kd.R_putg HO_8.out (t114 : Int) true) | ((with_reducible refine gate_store (t := 4) (p := 101) rfl ?_); (try (rw [drewN_self w60]; generalize hq_ : World.drewN w60 _ = w60; have n0_ := Aside0.mk (Kd.R_at hq_ HO_8.out); have n1_ := Aside0.mk (Kd.R_at hq_ HO_11.out); have n2_ := Aside0.mk (blk_at hq_ BK107.out); have n3_ := Aside0.mk (below_at hq_ HB.out); clear hq_ HO_8 HO_11 BK107 HB; have HO_8 := n0_; have HO_11 := n1_; have BK107 := n2_; have HB := n3_; clear n0_ n1_ n2_ n3_; (try (obtain ⟨hy64_, hz64_⟩ := Kd.R_celln false HO_8.out (t114 : Int) odt odt)); (try (have HP64 := Kd.R_putg HO_8.out (t114 : Int) true)))); refine store_event (t := 4) (p := 101) (v := ?vo_w65) (w1 := (w60.setCell ⟨go58, (t114 : Int).toNat, none⟩ (.bool true))) ?hg ?ho ?hn ?hr ?_; (case ho => rfl); (case hg => rfl); (case hn => rfl); (case hr => first | (go_simp; done) | (go_simp; rfl)); intro w65 hw; have hg : w60.grownBy w65 (some go58) := (by rw [hw]; exact HP64.2); have hp_ : Kd.R Kd.bool 4 w65 w.heap.size (fun _ => True) (.slice (some ⟨go58, 0, none⟩) x8_4.length co61) y118 := Q133; clear HP64; have n0_ := Aside0.mk (hp_); have n1_ := Aside0.mk (Kd.R_over' (v := (.slice (some ⟨go58, 0, none⟩) x8_4.length co61)) (rI HO_11) (Kd.R_typed HO_8.out) (by decide) hg); have n2_ := Aside0.mk (blk_grown (kI BK107) hg (Kd.R_ne HO_8.out BK107.out (by decide))); have n3_ := Aside0.mk ((Q134 : Below w.heap.size w w65)); clear HO_8 HO_11 BK107 HB; have HO_8 := n0_; have HO_11 := n1_; have BK107 := n2_; have HB := n3_; clear n0_ n1_ n2_ n3_ hg hw hp_) | ((with_reducible refine gate_builtin (b := .append) (xs := #[.tmp 102, .tmp 104]) rfl ?_); at_builtin; refine Kd.R_append (Kd.int .i64) (w0 := w) w.heap.size rfl (.tmp 102) (.tmp 104) 26 3 (.int .i64 0) 8 rfl Try.underlying26 info3 rfl (by decide) (by omega) (.slice Ao63 x11_4.length co63) x11_4 t114 [.int .i64 t114] (fun _ => True) (fun _ => False) rfl rfl ?aP (fun _ hk => hk.elim) ?aF ?aO ?aB ?aS ?aL ?_; (case aP => exact rfl); (case aB => exact (eI HB)); (case aF => exact Q116); (case aO => exact (rI HO_11)); (case aS => exact Q135); (case aL => have := LMc59.out; omega); intro v120 w66 ho hb hg hat; rw [← Ny119.out] at ho; have n0_ := Aside0.mk (Kd.R_over' (rI HO_8) (Kd.R_typed (rI HO_11)) (by decide) hg); have n1_ := Aside0.mk (blk_grown (kI BK107) hg (Kd.R_ne HO_11.out BK107.out (by decide))); have n2_ := Aside0.mk (hb); have n3_ := Aside0.mk (ho); clear HO_8 BK107 HB HO_11; have HO_8 := n0_; have BK107 := n1_; have HB := n2_; have HO121 := n3_; clear n0_ n1_ n2_ n3_ ho hb hg hat)))
                             go_roundg k4
                             case measure => have := HJ3.out; have := HK2.out; have := HJ19.out; have := HK4.out; omega
                             case rel => exact ⟨(wrap64 (x7_4 + 1)), (y118), (y119), (wrap64 (x61_4 + 1)), Q6, Q6, H', ⟨Q136⟩, ⟨rI HO_8⟩, ⟨rI HO121⟩, ⟨kI BK107⟩, ⟨eI HB⟩⟩
                            ·rw [if_neg c59] at H
                             exact Q8
                           ·replace c57 := Bool.eq_false_iff.mpr c57
                            subst c57; (rw [if_neg (show ¬ (false = true) by decide)] at H); (obtain rfl := Option.some.inj H); (have p113 : 0 ≤ (x61_4 : Int) := odt); (have q113 : x61_4 < (((rd_T80 l1 x33_2).f1).length : Int) := odt); (obtain ⟨ad113, e113, hx113_0⟩ := Kd.at_int HR106_1.out x61_4 p113 q113); (cases e113); (replace hx113_0 := hcI HB hx113_0); (replace p113 := eq_true p113); (replace q113 := eq_true q113); (go_wp2_with (first | (go_at_call 55; (with_reducible refine (impl_itemOf.calls _ _ l0 (rd ((rd_T80 l1 x33_2).f1) x61_4) t114 _ ?side1 ?side2 A39.out).mono ?_); (case side1 => exact Q92); (case side2 => exact HC0.out); rintro e w67 ⟨rfl, hb⟩; have n0_ := Aside0.mk (rbI hb HO_8); have n1_ := Aside0.mk (rbI hb HO_11); have n2_ := Aside0.mk (kbI hb BK107); have n3_ := Aside0.mk (sI hb HB); clear HO_8 HO_11 BK107 HB; have HO_8 := n0_; have HO_11 := n1_; have BK107 := n2_; have HB := n3_; clear n0_ n1_ n2_ n3_; (try clear hb); (try clear hb2); (try clear hk); (try clear hi); obtain ⟨Ao68, co68, eo68⟩ := Kd.R_slice HO_8.out; subst eo68; have p115 : 0 ≤ (t114 : Int) := odt; have q115 : t114 < (x8_4.length : Int) := odt; obtain ⟨ad115, e115, hx115_0⟩ := Kd.at_bool (Kd.R_reads' HO_8.out).2.2 t114 p115 q115; (try rw [← Nbq44.out] at hx115_0); cases e115; replace p115 := eq_true p115; replace q115 := eq_true q115; have hcz69_0 := cz BK107.out 0; have hcz69_1 := cz BK107.out 1; have hfz69_0 := blk_frozen BK107.out 0; have hfz69_1 := blk_frozen BK107.out 1; have p116 : 0 ≤ ((ji49) : Int) := odt; have q116 : (ji49) < (((rd_T80 l1 x33_2).f1).length : Int) := odt; obtain ⟨ad116, e116, hx116_0⟩ := Kd.at_int HR106_1.out (ji49) p116 q116; obtain rfl : ad113 = ad116 := Q129; replace hx116_0 := hcI HB hx116_0; replace p116 := eq_true p116; replace q116 := eq_true q116; obtain ⟨Ao70, co70, eo70⟩ := Kd.R_slice HO_11.out; subst eo70) | (go_at_call 78; (with_reducible refine (impl_fits.calls k4 _ _ l0 _ _ x11_4 t114 a2 false _ ?side1 ?side2 ?side3 ?side4 A56.out).mono ?_); (case side1 => exact Q92); (case side2 => exact HC0.out); (case side3 => repeat (first | exact Q131 | (with_reducible first | refine cA ?_ _ | refine cN ?_ _ | refine cD ?_))); (case side4 => exact Q132); rintro e w' ⟨rfl, ⟨nd, rfl⟩⟩; (try first | exact Q77 | exact Q78))))
                            repeat (go_quiet (first | (go_at_call 55; (with_reducible refine (impl_itemOf.calls _ _ l0 (rd ((rd_T80 l1 x33_2).f1) x61_4) t114 _ ?side1 ?side2 A39.out).mono ?_); (case side1 => exact Q92); (case side2 => exact HC0.out); rintro e w67 ⟨rfl, hb⟩; have n0_ := Aside0.mk (rbI hb HO_8); have n1_ := Aside0.mk (rbI hb HO_11); have n2_ := Aside0.mk (kbI hb BK107); have n3_ := Aside0.mk (sI hb HB); clear HO_8 HO_11 BK107 HB; have HO_8 := n0_; have HO_11 := n1_; have BK107 := n2_; have HB := n3_; clear n0_ n1_ n2_ n3_; (try clear hb); (try clear hb2); (try clear hk); (try clear hi); obtain ⟨Ao68, co68, eo68⟩ := Kd.R_slice HO_8.out; subst eo68; have p115 : 0 ≤ (t114 : Int) := odt; have q115 : t114 < (x8_4.length : Int) := odt; obtain ⟨ad115, e115, hx115_0⟩ := Kd.at_bool (Kd.R_reads' HO_8.out).2.2 t114 p115 q115; (try rw [← Nbq44.out] at hx115_0); cases e115; replace p115 := eq_true p115; replace q115 := eq_true q115; have hcz69_0 := cz BK107.out 0; have hcz69_1 := cz BK107.out 1; have hfz69_0 := blk_frozen BK107.out 0; have hfz69_1 := blk_frozen BK107.out 1; have p116 : 0 ≤ ((ji49) : Int) := odt; have q116 : (ji49) < (((rd_T80 l1 x33_2).f1).length : Int) := odt; obtain ⟨ad116, e116, hx116_0⟩ := Kd.at_int HR106_1.out (ji49) p116 q116; obtain rfl : ad113 = ad116 := Q129; replace hx116_0 := hcI HB hx116_0; replace p116 := eq_true p116; replace q116 := eq_true q116; obtain ⟨Ao70, co70, eo70⟩ := Kd.R_slice HO_11.out; subst eo70) | (go_at_call 78; (with_reducible refine (impl_fits.calls k4 _ _ l0 _ _ x11_4 t114 a2 false _ ?side1 ?side2 ?side3 ?side4 A56.out).mono ?_); (case side1 => exact Q92); (case side2 => exact HC0.out); (case side3 => repeat (first | exact Q131 | (with_reducible first | refine cA ?_ _ | refine cN ?_ _ | refine cD ?_))); (case side4 => exact Q132); rintro e w' ⟨rfl, ⟨nd, rfl⟩⟩; (try first | exact Q77 | exact Q78))); try go_wp2_with (first | (go_at_call 55; (with_reducible refine (impl_itemOf.calls _ _ l0 (rd ((rd_T80 l1 x33_2).f1) x61_4) t114 _ ?side1 ?side2 A39.out).mono ?_); (case side1 => exact Q92); (case side2 => exact HC0.out); rintro e w67 ⟨rfl, hb⟩; have n0_ := Aside0.mk (rbI hb HO_8); have n1_ := Aside0.mk (rbI hb HO_11); have n2_ := Aside0.mk (kbI hb BK107); have n3_ := Aside0.mk (sI hb HB); clear HO_8 HO_11 BK107 HB; have HO_8 := n0_; have HO_11 := n1_; have BK107 := n2_; have HB := n3_; clear n0_ n1_ n2_ n3_; (try clear hb); (try clear hb2); (try clear hk); (try clear hi); obtain ⟨Ao68, co68, eo68⟩ := Kd.R_slice HO_8.out; subst eo68; have p115 : 0 ≤ (t114 : Int) := odt; have q115 : t114 < (x8_4.length : Int) := odt; obtain ⟨ad115, e115, hx115_0⟩ := Kd.at_bool (Kd.R_reads' HO_8.out).2.2 t114 p115 q115; (try rw [← Nbq44.out] at hx115_0); cases e115; replace p115 := eq_true p115; replace q115 := eq_true q115; have hcz69_0 := cz BK107.out 0; have hcz69_1 := cz BK107.out 1; have hfz69_0 := blk_frozen BK107.out 0; have hfz69_1 := blk_frozen BK107.out 1; have p116 : 0 ≤ ((ji49) : Int) := odt; have q116 : (ji49) < (((rd_T80 l1 x33_2).f1).length : Int) := odt; obtain ⟨ad116, e116, hx116_0⟩ := Kd.at_int HR106_1.out (ji49) p116 q116; obtain rfl : ad113 = ad116 := Q129; replace hx116_0 := hcI HB hx116_0; replace p116 := eq_true p116; replace q116 := eq_true q116; obtain ⟨Ao70, co70, eo70⟩ := Kd.R_slice HO_11.out; subst eo70) | (go_at_call 78; (with_reducible refine (impl_fits.calls k4 _ _ l0 _ _ x11_4 t114 a2 false _ ?side1 ?side2 ?side3 ?side4 A56.out).mono ?_); (case side1 => exact Q92); (case side2 => exact HC0.out); (case side3 => repeat (first | exact Q131 | (with_reducible first | refine cA ?_ _ | refine cN ?_ _ | refine cD ?_))); (case side4 => exact Q132); rintro e w' ⟨rfl, ⟨nd, rfl⟩⟩; (try first | exact Q77 | exact Q78))))
                            go_ret; (exact Q130)
                         ·rw [if_neg c51] at H
                          exact Q8
                        ·rw [if_neg c50] at H
                         exact Q8
                       ·rw [if_neg c48] at H
                        (have c48b0 : decide (0 < x61_4) = false := decide_eq_false c48); clear c48; (replace H := obS H); (obtain ⟨t122, A71, H⟩ := H); (by_cases c72 : t122 = true)
                        ·subst c72
                         (rw [if_pos rfl] at H); (obtain ⟨y123, hy123⟩ : ∃ y_ : List Bool, y_ = (x8_4.set (t114 : Int).toNat true) := ⟨_, rfl⟩); (replace H : (if x11_4.length < 17592186044416 then (impl_IsValidArchive.l1 k4 l0 l1 a2 (wrap64 (x7_4 + 1)) y123 (x11_4 ++ [t114]) l1 (l1.length : Int) x33_2 ((rd_T80 l1 x33_2).f1) (((rd_T80 l1 x33_2).f1).length : Int) (wrap64 (x61_4 + 1)) ((rd_T80 l1 x33_2).f0) ((rd_T80 l1 x33_2).f1)) else (none)) = some r := Q42); (have Ny123 := Aside0.mk hy123); clear hy123; (by_cases c74 : x11_4.length < 17592186044416)
                         ·rw [if_pos c74] at H
                          (have LMc74 := Aside0.mk c74); clear c74; (obtain ⟨y124, hy124⟩ : ∃ y_ : List Int, y_ = (x11_4 ++ [t114]) := ⟨_, rfl⟩); (replace H : (impl_IsValidArchive.l1 k4 l0 l1 a2 (wrap64 (x7_4 + 1)) y123 y124 l1 (l1.length : Int) x33_2 ((rd_T80 l1 x33_2).f1) (((rd_T80 l1 x33_2).f1).length : Int) (wrap64 (x61_4 + 1)) ((rd_T80 l1 x33_2).f0) ((rd_T80 l1 x33_2).f1)) = some r := by first | (rw [hy124]; with_reducible exact H) | (have H2_ := (Option.bind_some _ _).symm.trans H; rw [hy124]; with_reducible exact H2_) | (have H2_ := (Option.bind_some _ _).symm.trans H; with_reducible exact H2_) | with_reducible exact H | (rw [hy124]; exact H) | exact H); (have Ny124 := Aside0.mk hy124); clear hy124; (have H' := Aside0.mk H); clear H; (have p113 : 0 ≤ (x61_4 : Int) := odt); (have q113 : x61_4 < (((rd_T80 l1 x33_2).f1).length : Int) := odt); (obtain ⟨ad113, e113, hx113_0⟩ := Kd.at_int HR106_1.out x61_4 p113 q113); (cases e113); (replace hx113_0 := hcI HB hx113_0); (replace p113 := eq_true p113); (replace q113 := eq_true q113)
                          go_wp2_with (first | (go_at_call 55; (with_reducible refine (impl_itemOf.calls _ _ l0 (rd ((rd_T80 l1 x33_2).f1) x61_4) t114 _ ?side1 ?side2 A39.out).mono ?_); (case side1 => exact Q92); (case side2 => exact HC0.out); rintro e w75 ⟨rfl, hb⟩; have n0_ := Aside0.mk (rbI hb HO_8); have n1_ := Aside0.mk (rbI hb HO_11); have n2_ := Aside0.mk (kbI hb BK107); have n3_ := Aside0.mk (sI hb HB); clear HO_8 HO_11 BK107 HB; have HO_8 := n0_; have HO_11 := n1_; have BK107 := n2_; have HB := n3_; clear n0_ n1_ n2_ n3_; (try clear hb); (try clear hb2); (try clear hk); (try clear hi); obtain ⟨Ao76, co76, eo76⟩ := Kd.R_slice HO_8.out; subst eo76; have p115 : 0 ≤ (t114 : Int) := odt; have q115 : t114 < (x8_4.length : Int) := odt; obtain ⟨ad115, e115, hx115_0⟩ := Kd.at_bool (Kd.R_reads' HO_8.out).2.2 t114 p115 q115; (try rw [← Nbq44.out] at hx115_0); cases e115; replace p115 := eq_true p115; replace q115 := eq_true q115; obtain ⟨Ao77, co77, eo77⟩ := Kd.R_slice HO_11.out; subst eo77) | (go_at_call 78; (with_reducible refine (impl_fits.calls k4 _ _ l0 _ _ x11_4 t114 a2 true _ ?side1 ?side2 ?side3 ?side4 A71.out).mono ?_); (case side1 => exact Q92); (case side2 => exact HC0.out); (case side3 => repeat (first | exact Q131 | (with_reducible first | refine cA ?_ _ | refine cN ?_ _ | refine cD ?_))); (case side4 => exact Q132); rintro e w' ⟨rfl, ⟨nd, rfl⟩⟩; (try first | exact Q77 | exact Q78); have p73 : 0 ≤ (t114 : Int) := odt; have q73 : (t114 : Int) < ((x8_4.length : Int) : Int) := odt; obtain ⟨go73, co73, eo73, gb73, gl73, cl73, HG73⟩ := Kd.R_form HO_8.out (by omega); (first | cases eo73 | (injection eo73 with ea_ en_ ec_; (first | subst ea_ | (injection ea_ with ea_; subst ea_)); subst ec_; clear en_)); have GB73 := Aside0.mk gb73; have GG73 := Aside0.mk HG73; clear gb73 gl73 HG73; (first | simp only [add_plain] at hx115_0 | skip); obtain ⟨hx73_0, hf73_0⟩ := Kd.R_celln false HO_8.out (t114 : Int) p73 q73; replace p73 := eq_true p73; replace q73 := eq_true q73; obtain ⟨hy78_, hz78_⟩ := Kd.R_celln false HO_8.out (t114 : Int) odt odt; have HP78 := Kd.R_putg HO_8.out (t114 : Int) true) | ((with_reducible refine gate_store (t := 4) (p := 101) rfl ?_); (try (rw [drewN_self w75]; generalize hq_ : World.drewN w75 _ = w75; have n0_ := Aside0.mk (Kd.R_at hq_ HO_8.out); have n1_ := Aside0.mk (Kd.R_at hq_ HO_11.out); have n2_ := Aside0.mk (blk_at hq_ BK107.out); have n3_ := Aside0.mk (below_at hq_ HB.out); clear hq_ HO_8 HO_11 BK107 HB; have HO_8 := n0_; have HO_11 := n1_; have BK107 := n2_; have HB := n3_; clear n0_ n1_ n2_ n3_; (try (obtain ⟨hy78_, hz78_⟩ := Kd.R_celln false HO_8.out (t114 : Int) odt odt)); (try (have HP78 := Kd.R_putg HO_8.out (t114 : Int) true)))); refine store_event (t := 4) (p := 101) (v := ?vo_w79) (w1 := (w75.setCell ⟨go73, (t114 : Int).toNat, none⟩ (.bool true))) ?hg ?ho ?hn ?hr ?_; (case ho => rfl); (case hg => rfl); (case hn => rfl); (case hr => first | (go_simp; done) | (go_simp; rfl)); intro w79 hw; have hg : w75.grownBy w79 (some go73) := (by rw [hw]; exact HP78.2); have hp_ : Kd.R Kd.bool 4 w79 w.heap.size (fun _ => True) (.slice (some ⟨go73, 0, none⟩) x8_4.length co76) y123 := Q137; clear HP78; have n0_ := Aside0.mk (hp_); have n1_ := Aside0.mk (Kd.R_over' (v := (.slice (some ⟨go73, 0, none⟩) x8_4.length co76)) (rI HO_11) (Kd.R_typed HO_8.out) (by decide) hg); have n2_ := Aside0.mk (blk_grown (kI BK107) hg (Kd.R_ne HO_8.out BK107.out (by decide))); have n3_ := Aside0.mk ((Q138 : Below w.heap.size w w79)); clear HO_8 HO_11 BK107 HB; have HO_8 := n0_; have HO_11 := n1_; have BK107 := n2_; have HB := n3_; clear n0_ n1_ n2_ n3_ hg hw hp_) | ((with_reducible refine gate_builtin (b := .append) (xs := #[.tmp 102, .tmp 104]) rfl ?_); at_builtin; refine Kd.R_append (Kd.int .i64) (w0 := w) w.heap.size rfl (.tmp 102) (.tmp 104) 26 3 (.int .i64 0) 8 rfl Try.underlying26 info3 rfl (by decide) (by omega) (.slice Ao77 x11_4.length co77) x11_4 t114 [.int .i64 t114] (fun _ => True) (fun _ => False) rfl rfl ?aP (fun _ hk => hk.elim) ?aF ?aO ?aB ?aS ?aL ?_; (case aP => exact rfl); (case aB => exact (eI HB)); (case aF => exact Q116); (case aO => exact (rI HO_11)); (case aS => exact Q135); (case aL => have := LMc74.out; omega); intro v125 w80 ho hb hg hat; rw [← Ny124.out] at ho; have n0_ := Aside0.mk (Kd.R_over' (rI HO_8) (Kd.R_typed (rI HO_11)) (by decide) hg); have n1_ := Aside0.mk (blk_grown (kI BK107) hg (Kd.R_ne HO_11.out BK107.out (by decide))); have n2_ := Aside0.mk (hb); have n3_ := Aside0.mk (ho); clear HO_8 BK107 HB HO_11; have HO_8 := n0_; have BK107 := n1_; have HB := n2_; have HO126 := n3_; clear n0_ n1_ n2_ n3_ ho hb hg hat))
                          repeat (go_quiet (first | (go_at_call 55; (with_reducible refine (impl_itemOf.calls _ _ l0 (rd ((rd_T80 l1 x33_2).f1) x61_4) t114 _ ?side1 ?side2 A39.out).mono ?_); (case side1 => exact Q92); (case side2 => exact HC0.out); rintro e w75 ⟨rfl, hb⟩; have n0_ := Aside0.mk (rbI hb HO_8); have n1_ := Aside0.mk (rbI hb HO_11); have n2_ := Aside0.mk (kbI hb BK107); have n3_ := Aside0.mk (sI hb HB); clear HO_8 HO_11 BK107 HB; have HO_8 := n0_; have HO_11 := n1_; have BK107 := n2_; have HB := n3_; clear n0_ n1_ n2_ n3_; (try clear hb); (try clear hb2); (try clear hk); (try clear hi); obtain ⟨Ao76, co76, eo76⟩ := Kd.R_slice HO_8.out; subst eo76; have p115 : 0 ≤ (t114 : Int) := odt; have q115 : t114 < (x8_4.length : Int) := odt; obtain ⟨ad115, e115, hx115_0⟩ := Kd.at_bool (Kd.R_reads' HO_8.out).2.2 t114 p115 q115; (try rw [← Nbq44.out] at hx115_0); cases e115; replace p115 := eq_true p115; replace q115 := eq_true q115; obtain ⟨Ao77, co77, eo77⟩ := Kd.R_slice HO_11.out; subst eo77) | (go_at_call 78; (with_reducible refine (impl_fits.calls k4 _ _ l0 _ _ x11_4 t114 a2 true _ ?side1 ?side2 ?side3 ?side4 A71.out).mono ?_); (case side1 => exact Q92); (case side2 => exact HC0.out); (case side3 => repeat (first | exact Q131 | (with_reducible first | refine cA ?_ _ | refine cN ?_ _ | refine cD ?_))); (case side4 => exact Q132); rintro e w' ⟨rfl, ⟨nd, rfl⟩⟩; (try first | exact Q77 | exact Q78); have p73 : 0 ≤ (t114 : Int) := odt; have q73 : (t114 : Int) < ((x8_4.length : Int) : Int) := odt; obtain ⟨go73, co73, eo73, gb73, gl73, cl73, HG73⟩ := Kd.R_form HO_8.out (by omega); (first | cases eo73 | (injection eo73 with ea_ en_ ec_; (first | subst ea_ | (injection ea_ with ea_; subst ea_)); subst ec_; clear en_)); have GB73 := Aside0.mk gb73; have GG73 := Aside0.mk HG73; clear gb73 gl73 HG73; (first | simp only [add_plain] at hx115_0 | skip); obtain ⟨hx73_0, hf73_0⟩ := Kd.R_celln false HO_8.out (t114 : Int) p73 q73; replace p73 := eq_true p73; replace q73 := eq_true q73; obtain ⟨hy78_, hz78_⟩ := Kd.R_celln false HO_8.out (t114 : Int) odt odt; have HP78 := Kd.R_putg HO_8.out (t114 : Int) true) | ((with_reducible refine gate_store (t := 4) (p := 101) rfl ?_); (try (rw [drewN_self w75]; generalize hq_ : World.drewN w75 _ = w75; have n0_ := Aside0.mk (Kd.R_at hq_ HO_8.out); have n1_ := Aside0.mk (Kd.R_at hq_ HO_11.out); have n2_ := Aside0.mk (blk_at hq_ BK107.out); have n3_ := Aside0.mk (below_at hq_ HB.out); clear hq_ HO_8 HO_11 BK107 HB; have HO_8 := n0_; have HO_11 := n1_; have BK107 := n2_; have HB := n3_; clear n0_ n1_ n2_ n3_; (try (obtain ⟨hy78_, hz78_⟩ := Kd.R_celln false HO_8.out (t114 : Int) odt odt)); (try (have HP78 := Kd.R_putg HO_8.out (t114 : Int) true)))); refine store_event (t := 4) (p := 101) (v := ?vo_w79) (w1 := (w75.setCell ⟨go73, (t114 : Int).toNat, none⟩ (.bool true))) ?hg ?ho ?hn ?hr ?_; (case ho => rfl); (case hg => rfl); (case hn => rfl); (case hr => first | (go_simp; done) | (go_simp; rfl)); intro w79 hw; have hg : w75.grownBy w79 (some go73) := (by rw [hw]; exact HP78.2); have hp_ : Kd.R Kd.bool 4 w79 w.heap.size (fun _ => True) (.slice (some ⟨go73, 0, none⟩) x8_4.length co76) y123 := Q137; clear HP78; have n0_ := Aside0.mk (hp_); have n1_ := Aside0.mk (Kd.R_over' (v := (.slice (some ⟨go73, 0, none⟩) x8_4.length co76)) (rI HO_11) (Kd.R_typed HO_8.out) (by decide) hg); have n2_ := Aside0.mk (blk_grown (kI BK107) hg (Kd.R_ne HO_8.out BK107.out (by decide))); have n3_ := Aside0.mk ((Q138 : Below w.heap.size w w79)); clear HO_8 HO_11 BK107 HB; have HO_8 := n0_; have HO_11 := n1_; have BK107 := n2_; have HB := n3_; clear n0_ n1_ n2_ n3_ hg hw hp_) | ((with_reducible refine gate_builtin (b := .append) (xs := #[.tmp 102, .tmp 104]) rfl ?_); at_builtin; refine Kd.R_append (Kd.int .i64) (w0 := w) w.heap.size rfl (.tmp 102) (.tmp 104) 26 3 (.int .i64 0) 8 rfl Try.underlying26 info3 rfl (by decide) (by omega) (.slice Ao77 x11_4.length co77) x11_4 t114 [.int .i64 t114] (fun _ => True) (fun _ => False) rfl rfl ?aP (fun _ hk => hk.elim) ?aF ?aO ?aB ?aS ?aL ?_; (case aP => exact rfl); (case aB => exact (eI HB)); (case aF => exact Q116); (case aO => exact (rI HO_11)); (case aS => exact Q135); (case aL => have := LMc74.out; omega); intro v125 w80 ho hb hg hat; rw [← Ny124.out] at ho; have n0_ := Aside0.mk (Kd.R_over' (rI HO_8) (Kd.R_typed (rI HO_11)) (by decide) hg); have n1_ := Aside0.mk (blk_grown (kI BK107) hg (Kd.R_ne HO_11.out BK107.out (by decide))); have n2_ := Aside0.mk (hb); have n3_ := Aside0.mk (ho); clear HO_8 BK107 HB HO_11; have HO_8 := n0_; have BK107 := n1_; have HB := n2_; have HO126 := n3_; clear n0_ n1_ n2_ n3_ ho hb hg hat)); try go_wp2_with (first | (go_at_call 55; (with_reducible refine (impl_itemOf.calls _ _ l0 (rd ((rd_T80 l1 x33_2).f1) x61_4) t114 _ ?side1 ?side2 A39.out).mono ?_); (case side1 => exact Q92); (case side2 => exact HC0.out); rintro e w75 ⟨rfl, hb⟩; have n0_ := Aside0.mk (rbI hb HO_8); have n1_ := Aside0.mk (rbI hb HO_11); have n2_ := Aside0.mk (kbI hb BK107); have n3_ := Aside0.mk (sI hb HB); clear HO_8 HO_11 BK107 HB; have HO_8 := n0_; have HO_11 := n1_; have BK107 := n2_; have HB := n3_; clear n0_ n1_ n2_ n3_; (try clear hb); (try clear hb2); (try clear hk); (try clear hi); obtain ⟨Ao76, co76, eo76⟩ := Kd.R_slice HO_8.out; subst eo76; have p115 : 0 ≤ (t114 : Int) := odt; have q115 : t114 < (x8_4.length : Int) := odt; obtain ⟨ad115, e115, hx115_0⟩ := Kd.at_bool (Kd.R_reads' HO_8.out).2.2 t114 p115 q115; (try rw [← Nbq44.out] at hx115_0); cases e115; replace p115 := eq_true p115; replace q115 := eq_true q115; obtain ⟨Ao77, co77, eo77⟩ := Kd.R_slice HO_11.out; subst eo77) | (go_at_call 78; (with_reducible refine (impl_fits.calls k4 _ _ l0 _ _ x11_4 t114 a2 true _ ?side1 ?side2 ?side3 ?side4 A71.out).mono ?_); (case side1 => exact Q92); (case side2 => exact HC0.out); (case side3 => repeat (first | exact Q131 | (with_reducible first | refine cA ?_ _ | refine cN ?_ _ | refine cD ?_))); (case side4 => exact Q132); rintro e w' ⟨rfl, ⟨nd, rfl⟩⟩; (try first | exact Q77 | exact Q78); have p73 : 0 ≤ (t114 : Int) := odt; have q73 : (t114 : Int) < ((x8_4.length : Int) : Int) := odt; obtain ⟨go73, co73, eo73, gb73, gl73, cl73, HG73⟩ := Kd.R_form HO_8.out (by omega); (first | cases eo73 | (injection eo73 with ea_ en_ ec_; (first | subst ea_ | (injection ea_ with ea_; subst ea_)); subst ec_; clear en_)); have GB73 := Aside0.mk gb73; have GG73 := Aside0.mk HG73; clear gb73 gl73 HG73; (first | simp only [add_plain] at hx115_0 | skip); obtain ⟨hx73_0, hf73_0⟩ := Kd.R_celln false HO_8.out (t114 : Int) p73 q73; replace p73 := eq_true p73; replace q73 := eq_true q73; obtain ⟨hy78_, hz78_⟩ := Kd.R_celln false HO_8.out (t114 : Int) odt odt; have HP78 := Kd.R_putg HO_8.out (t114 : Int) true) | ((with_reducible refine gate_store (t := 4) (p := 101) rfl ?_); (try (rw [drewN_self w75]; generalize hq_ : World.drewN w75 _ = w75; have n0_ := Aside0.mk (Kd.R_at hq_ HO_8.out); have n1_ := Aside0.mk (Kd.R_at hq_ HO_11.out); have n2_ := Aside0.mk (blk_at hq_ BK107.out); have n3_ := Aside0.mk (below_at hq_ HB.out); clear hq_ HO_8 HO_11 BK107 HB; have HO_8 := n0_; have HO_11 := n1_; have BK107 := n2_; have HB := n3_; clear n0_ n1_ n2_ n3_; (try (obtain ⟨hy78_, hz78_⟩ := Kd.R_celln false HO_8.out (t114 : Int) odt odt)); (try (have HP78 := Kd.R_putg HO_8.out (t114 : Int) true)))); refine store_event (t := 4) (p := 101) (v := ?vo_w79) (w1 := (w75.setCell ⟨go73, (t114 : Int).toNat, none⟩ (.bool true))) ?hg ?ho ?hn ?hr ?_; (case ho => rfl); (case hg => rfl); (case hn => rfl); (case hr => first | (go_simp; done) | (go_simp; rfl)); intro w79 hw; have hg : w75.grownBy w79 (some go73) := (by rw [hw]; exact HP78.2); have hp_ : Kd.R Kd.bool 4 w79 w.heap.size (fun _ => True) (.slice (some ⟨go73, 0, none⟩) x8_4.length co76) y123 := Q137; clear HP78; have n0_ := Aside0.mk (hp_); have n1_ := Aside0.mk (Kd.R_over' (v := (.slice (some ⟨go73, 0, none⟩) x8_4.length co76)) (rI HO_11) (Kd.R_typed HO_8.out) (by decide) hg); have n2_ := Aside0.mk (blk_grown (kI BK107) hg (Kd.R_ne HO_8.out BK107.out (by decide))); have n3_ := Aside0.mk ((Q138 : Below w.heap.size w w79)); clear HO_8 HO_11 BK107 HB; have HO_8 := n0_; have HO_11 := n1_; have BK107 := n2_; have HB := n3_; clear n0_ n1_ n2_ n3_ hg hw hp_) | ((with_reducible refine gate_builtin (b := .append) (xs := #[.tmp 102, .tmp 104]) rfl ?_); at_builtin; refine Kd.R_append (Kd.int .i64) (w0 := w) w.heap.size rfl (.tmp 102) (.tmp 104) 26 3 (.int .i64 0) 8 rfl Try.underlying26 info3 rfl (by decide) (by omega) (.slice Ao77 x11_4.length co77) x11_4 t114 [.int .i64 t114] (fun _ => True) (fun _ => False) rfl rfl ?aP (fun _ hk => hk.elim) ?aF ?aO ?aB ?aS ?aL ?_; (case aP => exact rfl); (case aB => exact (eI HB)); (case aF => exact Q116); (case aO => exact (rI HO_11)); (case aS => exact Q135); (case aL => have := LMc74.out; omega); intro v125 w80 ho hb hg hat; rw [← Ny124.out] at ho; have n0_ := Aside0.mk (Kd.R_over' (rI HO_8) (Kd.R_typed (rI HO_11)) (by decide) hg); have n1_ := Aside0.mk (blk_grown (kI BK107) hg (Kd.R_ne HO_11.out BK107.out (by decide))); have n2_ := Aside0.mk (hb); have n3_ := Aside0.mk (ho); clear HO_8 BK107 HB HO_11; have HO_8 := n0_; have BK107 := n1_; have HB := n2_; have HO126 := n3_; clear n0_ n1_ n2_ n3_ ho hb hg hat)))
                          go_roundg k4
                          case measure => have := HJ3.out; have := HK2.out; have := HJ19.out; have := HK4.out; omega
                          case rel => exact ⟨(wrap64 (x7_4 + 1)), (y123), (y124), (wrap64 (x61_4 + 1)), Q6, Q6, H', ⟨Q136⟩, ⟨rI HO_8⟩, ⟨rI HO126⟩, ⟨kI BK107⟩, ⟨eI HB⟩⟩
                         ·rw [if_neg c74] at H
                          exact Q8
                        ·replace c72 := Bool.eq_false_iff.mpr c72
                         subst c72; (rw [if_neg (show ¬ (false = true) by decide)] at H); (obtain rfl := Option.some.inj H); (have p113 : 0 ≤ (x61_4 : Int) := odt); (have q113 : x61_4 < (((rd_T80 l1 x33_2).f1).length : Int) := odt); (obtain ⟨ad113, e113, hx113_0⟩ := Kd.at_int HR106_1.out x61_4 p113 q113); (cases e113); (replace hx113_0 := hcI HB hx113_0); (replace p113 := eq_true p113); (replace q113 := eq_true q113); (go_wp2_with (first | (go_at_call 55; (with_reducible refine (impl_itemOf.calls _ _ l0 (rd ((rd_T80 l1 x33_2).f1) x61_4) t114 _ ?side1 ?side2 A39.out).mono ?_); (case side1 => exact Q92); (case side2 => exact HC0.out); rintro e w81 ⟨rfl, hb⟩; have n0_ := Aside0.mk (rbI hb HO_8); have n1_ := Aside0.mk (rbI hb HO_11); have n2_ := Aside0.mk (kbI hb BK107); have n3_ := Aside0.mk (sI hb HB); clear HO_8 HO_11 BK107 HB; have HO_8 := n0_; have HO_11 := n1_; have BK107 := n2_; have HB := n3_; clear n0_ n1_ n2_ n3_; (try clear hb); (try clear hb2); (try clear hk); (try clear hi); obtain ⟨Ao82, co82, eo82⟩ := Kd.R_slice HO_8.out; subst eo82; have p115 : 0 ≤ (t114 : Int) := odt; have q115 : t114 < (x8_4.length : Int) := odt; obtain ⟨ad115, e115, hx115_0⟩ := Kd.at_bool (Kd.R_reads' HO_8.out).2.2 t114 p115 q115; (try rw [← Nbq44.out] at hx115_0); cases e115; replace p115 := eq_true p115; replace q115 := eq_true q115; obtain ⟨Ao83, co83, eo83⟩ := Kd.R_slice HO_11.out; subst eo83) | (go_at_call 78; (with_reducible refine (impl_fits.calls k4 _ _ l0 _ _ x11_4 t114 a2 false _ ?side1 ?side2 ?side3 ?side4 A71.out).mono ?_); (case side1 => exact Q92); (case side2 => exact HC0.out); (case side3 => repeat (first | exact Q131 | (with_reducible first | refine cA ?_ _ | refine cN ?_ _ | refine cD ?_))); (case side4 => exact Q132); rintro e w' ⟨rfl, ⟨nd, rfl⟩⟩; (try first | exact Q77 | exact Q78))))
                         (repeat (go_quiet (first | (go_at_call 55; (with_reducible refine (impl_itemOf.calls _ _ l0 (rd ((rd_T80 l1 x33_2).f1) x61_4) t114 _ ?side1 ?side2 A39.out).mono ?_); (case side1 => exact Q92); (case side2 => exact HC0.out); rintro e w81 ⟨rfl, hb⟩; have n0_ := Aside0.mk (rbI hb HO_8); have n1_ := Aside0.mk (rbI hb HO_11); have n2_ := Aside0.mk (kbI hb BK107); have n3_ := Aside0.mk (sI hb HB); clear HO_8 HO_11 BK107 HB; have HO_8 := n0_; have HO_11 := n1_; have BK107 := n2_; have HB := n3_; clear n0_ n1_ n2_ n3_; (try clear hb); (try clear hb2); (try clear hk); (try clear hi); obtain ⟨Ao82, co82, eo82⟩ := Kd.R_slice HO_8.out; subst eo82; have p115 : 0 ≤ (t114 : Int) := odt; have q115 : t114 < (x8_4.length : Int) := odt; obtain ⟨ad115, e115, hx115_0⟩ := Kd.at_bool (Kd.R_reads' HO_8.out).2.2 t114 p115 q115; (try rw [← Nbq44.out] at hx115_0); cases e115; replace p115 := eq_true p115; replace q115 := eq_true q115; obtain ⟨Ao83, co83, eo83⟩ := Kd.R_slice HO_11.out; subst eo83) | (go_at_call 78; (with_reducible refine (impl_fits.calls k4 _ _ l0 _ _ x11_4 t114 a2 false _ ?side1 ?side2 ?side3 ?side4 A71.out).mono ?_); (case side1 => exact Q92); (case side2 => exact HC0.out); (case side3 => repeat (first | exact Q131 | (with_reducible first | refine cA ?_ _ | refine cN ?_ _ | refine cD ?_))); (case side4 => exact Q132); rintro e w' ⟨rfl, ⟨nd, rfl⟩⟩; (try first | exact Q77 | exact Q78))); try go_wp2_with (first | (go_at_call 55; (with_reducible refine (impl_itemOf.calls _ _ l0 (rd ((rd_T80 l1 x33_2).f1) x61_4) t114 _ ?side1 ?side2 A39.out).mono ?_); (case side1 => exact Q92); (case side2 => exact HC0.out); rintro e w81 ⟨rfl, hb⟩; have n0_ := Aside0.mk (rbI hb HO_8); have n1_ := Aside0.mk (rbI hb HO_11); have n2_ := Aside0.mk (kbI hb BK107); have n3_ := Aside0.mk (sI hb HB); clear HO_8 HO_11 BK107 HB; have HO_8 := n0_; have HO_11 := n1_; have BK107 := n2_; have HB := n3_; clear n0_ n1_ n2_ n3_; (try clear hb); (try clear hb2); (try clear hk); (try clear hi); obtain ⟨Ao82, co82, eo82⟩ := Kd.R_slice HO_8.out; subst eo82; have p115 : 0 ≤ (t114 : Int) := odt; have q115 : t114 < (x8_4.length : Int) := odt; obtain ⟨ad115, e115, hx115_0⟩ := Kd.at_bool (Kd.R_reads' HO_8.out).2.2 t114 p115 q115; (try rw [← Nbq44.out] at hx115_0); cases e115; replace p115 := eq_true p115; replace q115 := eq_true q115; obtain ⟨Ao83, co83, eo83⟩ := Kd.R_slice HO_11.out; subst eo83) | (go_at_call 78; (with_reducible refine (impl_fits.calls k4 _ _ l0 _ _ x11_4 t114 a2 false _ ?side1 ?side2 ?side3 ?side4 A71.out).mono ?_); (case side1 => exact Q92); (case side2 => exact HC0.out); (case side3 => repeat (first | exact Q131 | (with_reducible first | refine cA ?_ _ | refine cN ?_ _ | refine cD ?_))); (case side4 => exact Q132); rintro e w' ⟨rfl, ⟨nd, rfl⟩⟩; (try first | exact Q77 | exact Q78))))); go_ret; (exact Q18)
                     ·rw [if_neg c43] at H
                      exact Q8
                    ·rw [if_neg c42] at H
                     exact Q8
                  ·rw [if_neg c38] at H
                   exact Q8
                 ·rw [if_neg c37] at H
                  exact Q8
                ·rw [if_neg c36] at H
                 (have c36b0 := decide_eq_false c36); clear c36; (have H' := Aside0.mk H); clear H; (go_wp2); (repeat (go_quiet (fail); try go_wp2)); go_roundg k4
                 case measure => have := HJ3.out; have := HK2.out; have := HJ19.out; have := HK4.out; omega
                 case rel => exact ⟨(x7_4), (x8_4), (wrap64 (x33_2 + 1)), Q6, Q6, H', ⟨Q136⟩, ⟨rI HO_8⟩, ⟨eI HB⟩⟩
          ·rw [if_neg c19] at H
           exact Q8
         ·rw [if_neg c18] at H
          exact Q8
        ·rw [if_neg c17] at H
         (have c17b0 := decide_eq_false c17); clear c17; (obtain rfl := Option.some.inj H); (go_wp2); (repeat (go_quiet (fail); try go_wp2)); go_ret; (exact Q18)
     ·rw [if_neg c14] at H
      exact Q8
    ·rw [if_neg c13] at H
     exact Q8
end Go.Proofs.Ytdbhelhoaciodaa.X
set_option linter.unusedVariables false
set_option linter.unusedSimpArgs false
namespace Go.Proofs.Ytdbhelhoaciodaa.X
open Go.RowKit Go.Proofs.YtdbhelhoaciodaaW.PrintWords Go.Proofs.YtdbhelhoaciodaaW.PrintLast Go.Proofs.YtdbhelhoaciodaaW.PrintMore
theorem S_snoc_at {α : Type} (d : Kd α) {W W2 : World} {base e g n cap : Nat} {ok okp : Nat → Prop} {P : List α} {x : α} {cs : List Value} {cur cur2 : Array Value}
  (hS : Kd.S d e W base (fun k => ok k ∧ ¬ okp k) (.slice (some ⟨g, 0, none⟩) P.length cap) P) (hb : W.heap[g]? = some (.cells cur e (0, 0))) (hb2 : W2.heap[g]? = some (.cells cur2 e (0, 0)))
  (hm : ∀ k, k ≠ g → W2.heap[k]? = W.heap[k]?) (hsz : cur2.size = cur.size) (hlow : ∀ j, j < P.length * d.sz → cur2[j]? = cur[j]?)
  (hcs : ((cur2.toList.drop (P.length * d.sz)).take d.sz) = cs) (hcl : cs.length = d.sz) (hn : P.length + 1 ≤ cap) (hp : d.M W2 base okp x cs) (hokp : ∀ k, okp k → ok k ∧ k ≠ g) :
  Kd.S d e W2 base ok (.slice (some ⟨g, 0, none⟩) (P.length + 1) cap) (P ++ [x]) := by
 obtain ⟨f, hf, hR⟩ := Kd.S_tag hS P.length okp (fun _ hk h2 => h2.2 hk)
 obtain ⟨h0, inner, ho, hr⟩ := hR
 rw [List.length_zipIdx] at ho
 replace ho : W.ownsRow base e d.sz (.slice (some ⟨g, 0, none⟩) P.length cap) P.length inner := ho
 replace hr : Reps ((Kd.tag f d).M W base fun k => (ok k ∧ ¬ okp k) ∧ some k ≠ (Value.slice (some ⟨g, 0, none⟩) P.length cap).ownBlock) d.sz P.zipIdx inner := hr
 have hg0 : ok g := (h0 g rfl).1
 rcases ho.2 with ⟨e0, _⟩ | ⟨g', cap', c0, e0, hbase, hg, hnc, hm1, hs, ht⟩
 ·cases e0
 injection e0 with e1 _ e3
 injection e1 with e1
 injection e1 with e1
 subst e1; subst e3
 have ec : c0 = cur := by
  rw [hb] at hg
  injection hg with hg
  injection hg with hg
  exact hg.symm
 subst ec
 have hlen : inner.length = P.length * d.sz := ho.1
 have hle : (P.length + 1) * d.sz ≤ cur2.size := by
  rw [hsz, hs]
  exact Nat.mul_le_mul_right _ hn
 have htk : cur2.toList.take (P.length * d.sz) = inner := by
  rw [← ht]
  apply List.ext_getElem?
  intro j
  rw [List.getElem?_take, List.getElem?_take]
  by_cases hj : j < P.length * d.sz
  ·rw [if_pos hj, if_pos hj, Array.getElem?_toList, Array.getElem?_toList]
   exact hlow j hj
  ·rw [if_neg hj, if_neg hj]
 have htk2 : cur2.toList.take ((P.length + 1) * d.sz) = inner ++ cs := by
  rw [Nat.add_mul, Nat.one_mul, List.take_add, htk, hcs]
 refine ⟨f, fun k hk => ?_, inner ++ cs, ?_, ?_⟩
 ·have : g = k := by simpa [Value.ownBlock] using hk
  subst this
  exact hg0
 ·rw [List.length_zipIdx, List.length_append, List.length_singleton]
  refine ⟨show (inner ++ cs).length = (P.length + 1) * d.sz by rw [List.length_append, hlen, hcl, Nat.add_mul, Nat.one_mul], .inr ⟨g, cap, cur2, rfl, hbase, hb2, hn, hm1, by rw [hsz]; exact hs, htk2⟩⟩
 ·rw [Kd.zip_snoc]
  show Reps ((Kd.tag f d).M W2 base fun k => ok k ∧ some k ≠ (Value.slice (some ⟨g, 0, none⟩) (P.length + 1) cap).ownBlock) d.sz (P.zipIdx ++ [(x, P.length)]) (inner ++ cs)
  refine Reps.snoc (hr.imp_ (fun p c hp' => ?_)) ?_ hcl
  ·refine d.M_mono (fun k hk => ?_) (d.M_move (fun k hk => hm k ?_) hp')
   ·obtain ⟨⟨⟨h1, _⟩, h2⟩, h3⟩ := hk
    refine ⟨⟨h1, ?_⟩, h3⟩
    intro e4
    exact h2 (by simpa [Value.ownBlock] using e4)
   ·obtain ⟨⟨_, h2⟩, _⟩ := hk
    intro e4
    exact h2 (by rw [e4]; rfl)
  ·refine d.M_mono (fun k hk => ⟨⟨(hokp k hk).1, fun e4 => ?_⟩, hf k hk⟩) hp
   exact (hokp k hk).2 (by simpa [Value.ownBlock] using e4)
end Go.Proofs.Ytdbhelhoaciodaa.X
set_option linter.unusedVariables false
set_option linter.unusedSimpArgs false
namespace Go.Proofs.Ytdbhelhoaciodaa.X
open Go.RowKit Go.Proofs.YtdbhelhoaciodaaW.PrintWords Go.Proofs.YtdbhelhoaciodaaW.PrintLast Go.Proofs.YtdbhelhoaciodaaW.PrintMore
abbrev MBox := S80
structure MV (w W : World) (g n cap b : Nat) (boxes P : List MBox) : Prop where
 len : P.length = b
 row : Kd.S k80 80 W w.heap.size (fun _ => True) (.slice (some ⟨g, 0, none⟩) P.length cap) P
 cur : ∃ cur, W.heap[g]? = some (.cells cur 80 (0, 0)) ∧ cur.size = cap * 2 ∧ ∀ j x, b ≤ j → boxes[j]? = some x → ∃ A c, cur[j * 2]? = some (.int .i64 x.f0) ∧ cur[j * 2 + 1]? = some (.slice A x.f1.length c) ∧ x.f1.length ≤ c ∧ Kd.C (Kd.int .i64) w A x.f1.length x.f1
 hb : Below w.heap.size w W
 ge : w.heap.size ≤ g
 nn : boxes.length = n
 nc : n ≤ cap
section
variable {w W W' : World} {g n cap b : Nat} {boxes P : List MBox}
theorem MV.lt (F : MV w W g n cap b boxes P) : g < W.heap.size := by
 obtain ⟨cur, h, _⟩ := F.cur
 exact blk_lt h
theorem MV.below (F : MV w W g n cap b boxes P) (h : Below W.heap.size W W') : MV w W' g n cap b boxes P where
 len := F.len
 row := Kd.S_below F.row h
 cur := by
  obtain ⟨cur, h1, h2⟩ := F.cur
  exact ⟨cur, (h.block g F.lt).trans h1, h2⟩
 hb := below_step F.hb h
 ge := F.ge
 nn := F.nn
 nc := F.nc
theorem MV.at_ (F : MV w W g n cap b boxes P) (hlt : b < n) (z : MBox) : ∃ A c, W.cell? ⟨g, b * 2, none⟩ = some (.int .i64 (boxes.getD b z).f0) ∧ W.cell? ⟨g, b * 2 + 1, none⟩ = some (.slice A (boxes.getD b z).f1.length c) ∧ W.frozen? ⟨g, b * 2 + 1, none⟩ = false ∧ (boxes.getD b z).f1.length ≤ c ∧ Kd.C (Kd.int .i64) W A (boxes.getD b z).f1.length (boxes.getD b z).f1 := by
 obtain ⟨cur, h1, h2, h3⟩ := F.cur
 have hbl : b < boxes.length := by rw [F.nn]; exact hlt
 obtain ⟨A, c, e1, e2, e3, e4⟩ := h3 b boxes[b] (Nat.le_refl _) (List.getElem?_eq_getElem hbl)
 have hz : boxes.getD b z = boxes[b] := by rw [List.getD_eq_getElem?_getD, List.getElem?_eq_getElem hbl]; rfl
 rw [hz]
 exact ⟨A, c, (blk_cell h1 _).trans e1, (blk_cell h1 _).trans e2, blk_frozen h1 _, e3, Kd.C_below e4 F.hb⟩
theorem MV.put (F : MV w W g n cap b boxes P) (hlt : b < n) (z : MBox) (h : Below W.heap.size W W') {v : Value} {L : List Int} (hv : Kd.R (Kd.int .i64) 3 W' W.heap.size (fun _ => True) v L) : MV w (W'.setCell ⟨g, b * 2 + 1, none⟩ v) g n cap (b + 1) boxes (P ++ [⟨(boxes.getD b z).f0, L⟩]) := by
 have hbl : b < boxes.length := by rw [F.nn]; exact hlt
 have hz : boxes.getD b z = boxes[b] := by rw [List.getD_eq_getElem?_getD, List.getElem?_eq_getElem hbl]; rfl
 have hg := F.lt
 obtain ⟨cur, h1, h2, h3⟩ := F.cur
 obtain ⟨A, c, e1, e2, e3, e4⟩ := h3 b boxes[b] (Nat.le_refl _) (List.getElem?_eq_getElem hbl)
 have h1' : W'.heap[g]? = some (.cells cur 80 (0, 0)) := (h.block g hg).trans h1
 have hW2 : (W'.setCell ⟨g, b * 2 + 1, none⟩ v).heap[g]? = some (.cells (cur.setIfInBounds (b * 2 + 1) v) 80 (0, 0)) := blk_put h1' _ v rfl
 have hnc := F.nc
 have hsb : b * 2 + 1 < cur.size := by omega
 have hm : ∀ k, k ≠ g → (W'.setCell ⟨g, b * 2 + 1, none⟩ v).heap[k]? = W'.heap[k]? := fun k hk => Below.heap_setCell W' ⟨g, b * 2 + 1, none⟩ v k hk
 have hv2 : Kd.R (Kd.int .i64) 3 (W'.setCell ⟨g, b * 2 + 1, none⟩ v) w.heap.size (fun k => W.heap.size ≤ k) v L := by
  refine Kd.R_lower (Kd.R_mono (Kd.R_far (p := ⟨g, b * 2 + 1, none⟩) (Kd.R_mono (ok' := fun k => W.heap.size ≤ k) (Kd.R_bound hv) (fun k hk => hk.2.1)) (fun k hk e => ?_) v) (fun k hk => hk)) F.hb.size
  have e' : k = g := e
  omega
 have hset : ∀ j, j ≠ b * 2 + 1 → (cur.setIfInBounds (b * 2 + 1) v)[j]? = cur[j]? := fun j hj => by rw [Array.getElem?_setIfInBounds]; simp [Ne.symm hj]
 have hat : (cur.setIfInBounds (b * 2 + 1) v)[b * 2 + 1]? = some v := by rw [Array.getElem?_setIfInBounds]; simp [hsb]
 refine ⟨by rw [List.length_append, F.len, List.length_singleton], ?_, ?_, ?_, F.ge, F.nn, F.nc⟩
 ·rw [List.length_append, List.length_singleton]
  refine S_snoc_at (W := W') (okp := fun k => W.heap.size ≤ k) (cur := cur) (cur2 := cur.setIfInBounds (b * 2 + 1) v) (cs := [.int .i64 (boxes.getD b z).f0, v]) k80 (n := n) ?_ h1' hW2 hm (by rw [Array.size_setIfInBounds]) ?_ ?_ rfl (by rw [F.len]; omega) (k80_mkM _ _ _ (⟨(boxes.getD b z).f0, L⟩ : MBox) hv2) (fun k hk => ⟨trivial, by omega⟩)
  ·exact Kd.S_below (Kd.S_mono (Kd.S_bound F.row) (fun k hk => ⟨trivial, by have := hk.2.2.1; omega⟩)) h
  ·intro j hj
   refine hset j ?_
   have hj' : j < P.length * 2 := hj
   rw [F.len] at hj'
   omega
  ·rw [F.len, hz]
   show ((cur.setIfInBounds (b * 2 + 1) v).toList.drop (b * 2)).take 2 = _
   have q0 : (cur.setIfInBounds (b * 2 + 1) v).toList[b * 2]? = some (.int .i64 boxes[b].f0) := by rw [Array.getElem?_toList, hset _ (by omega)]; exact e1
   have q1 : (cur.setIfInBounds (b * 2 + 1) v).toList[b * 2 + 1]? = some v := by rw [Array.getElem?_toList]; exact hat
   obtain ⟨l0, g0⟩ := List.getElem?_eq_some_iff.1 q0
   obtain ⟨l1, g1⟩ := List.getElem?_eq_some_iff.1 q1
   rw [List.drop_eq_getElem_cons l0, List.drop_eq_getElem_cons l1, List.take_succ_cons, List.take_succ_cons, List.take_zero, g0, g1]
 ·refine ⟨_, hW2, by rw [Array.size_setIfInBounds]; exact h2, fun j x hj hx => ?_⟩
  obtain ⟨A2, c2, k1, k2, k3, k4⟩ := h3 j x (by omega) hx
  exact ⟨A2, c2, by rw [hset _ (by omega)]; exact k1, by rw [hset _ (by omega)]; exact k2, k3, k4⟩
 ·exact below_set (below_step F.hb h) F.ge
theorem MV.done (F : MV w W g n cap b boxes P) (hn : b = n) : Kd.S k80 80 W w.heap.size (fun _ => True) (.slice (some ⟨g, 0, none⟩) n cap) P := by
 have h := F.row
 rw [F.len, hn] at h
 exact h
end
open Classical in
theorem raw_rows {w : World} {A : Option Addr} {n : Nat} {xs : List MBox} (h : Kd.C k80 w A n xs) : ∃ rows : List (List Value), Kd.C (Kd.raw 2) w A n rows ∧ rows.length = xs.length ∧ ∀ (j : Nat) (x : MBox), xs[j]? = some x → ∃ c, rows[j]? = some c ∧ k80.K w x c := by
 obtain ⟨h1, h2, h3⟩ := h
 rcases Nat.eq_zero_or_pos n with h0 | h0
 ·refine ⟨[], ⟨by simpa using h0.symm, h2, fun h => by omega⟩, by simp; omega, fun j x hx => ?_⟩
  have : xs = [] := List.length_eq_zero_iff.1 (by omega)
  subst this
  simp at hx
 obtain ⟨ad, e, hc⟩ := h3 h0
 have hc' : ∀ j : Nat, ∃ c : List Value, ∀ p, xs[j]? = some p → c.length = 2 ∧ k80.K w p c ∧ ∀ i u, c[i]? = some u → w.cell? (ad.add (j * 2 + i)) = some u := by
  intro j
  cases hx : xs[j]? with
  | none => exact ⟨[], fun p hp => by cases hp⟩
  | some p =>
   obtain ⟨c, q1, q2, q3⟩ := hc j p hx
   exact ⟨c, fun p' hp' => by injection hp' with e'; subst e'; exact ⟨q1, q2, q3⟩⟩
 refine ⟨(List.range xs.length).map (fun j => (hc' j).choose), ⟨by rw [List.length_map, List.length_range]; exact h1, h2, fun _ => ⟨ad, e, fun j p hj => ?_⟩⟩, by rw [List.length_map, List.length_range], fun j x hx => ?_⟩
 ·rw [List.getElem?_map] at hj
  obtain ⟨j', hj', rfl⟩ := Option.map_eq_some_iff.1 hj
  obtain ⟨hlt, e2⟩ := List.getElem?_eq_some_iff.1 hj'
  rw [List.getElem_range] at e2
  subst e2
  rw [List.length_range] at hlt
  obtain ⟨q1, q2, q3⟩ := (hc' j).choose_spec xs[j] (List.getElem?_eq_getElem hlt)
  exact ⟨_, q1, ⟨rfl, q1, fun u hu => k80.K_one q2 u hu⟩, q3⟩
 ·obtain ⟨hlt, e2⟩ := List.getElem?_eq_some_iff.1 hx
  refine ⟨(hc' j).choose, ?_, ((hc' j).choose_spec x hx).2.1⟩
  rw [List.getElem?_map, List.getElem?_range hlt]
  rfl
end Go.Proofs.Ytdbhelhoaciodaa.X
set_option linter.unusedVariables false
set_option linter.unusedSimpArgs false
namespace Go.Proofs.Ytdbhelhoaciodaa.X
open Go.RowKit Go.Proofs.YtdbhelhoaciodaaW.PrintWords Go.Proofs.YtdbhelhoaciodaaW.PrintLast Go.Proofs.YtdbhelhoaciodaaW.PrintMore
theorem cloneB_eqnil (t e : Nat) (ht : Try.prog.underlying t = some (.slice e)) (A : Option Addr) (n c : Nat) (w : World) : Sem.run Try.prog (binOp .eql t (.slice A n c) (.slice none 0 0)) w = .ok (.bool A.isNone) w := by
 have hr : Sem.run Try.prog (underlying t) w = .ok (.slice e) w := by simp [underlying, ht]
 cases A <;> (simp [binOp, Op.equal, Op.maxDepth]; unfold Op.equalIn; simp [hr])
theorem MV_start {w W : World} {n : Nat} {boxes : List MBox} {rows : List (List Value)} {v : Value} (hw : Below w.heap.size w W) (hn : boxes.length = n) (hpos : 0 < n) (hrows : rows.length = n) (hrel : ∀ (j : Nat) (x : MBox), boxes[j]? = some x → ∃ c, rows[j]? = some c ∧ k80.K w x c) (h : Kd.R (Kd.raw 2) 80 W w.heap.size (fun _ => True) v rows) :
  ∃ g cap, v = .slice (some ⟨g, 0, none⟩) n cap ∧ MV w W g n cap 0 boxes [] := by
 obtain ⟨_, inner, ho, hr⟩ := h
 rw [hrows] at ho
 replace ho : W.ownsRow w.heap.size 80 2 v n inner := ho
 rcases ho.2 with ⟨_, h0⟩ | ⟨g, cap, cur, e0, hbase, hg, hnc, hm1, hs, ht⟩
 ·omega
 have hat : ∀ (j : Nat) (c : List Value), rows[j]? = some c → ((inner.drop (j * 2)).take 2) = c ∧ c.length = 2 := by
  intro j c hj
  have := hr.2 j c hj
  exact ⟨this.1, by rw [← this.1]; exact this.2.1⟩
 refine ⟨g, cap, e0, rfl, ?_, ⟨cur, hg, hs, fun j x _ hx => ?_⟩, hw, hbase, hn, hnc⟩
 ·refine ⟨fun _ => 0, fun _ _ => trivial, [], ⟨rfl, .inr ⟨g, cap, cur, rfl, hbase, hg, Nat.zero_le _, hm1, hs, by simp⟩⟩, Reps.none _ _⟩
 ·obtain ⟨c, q1, q2⟩ := hrel j x hx
  obtain ⟨A1, c1, e1, e2, e3⟩ := k80_open q2
  obtain ⟨q3, q4⟩ := hat j c q1
  rw [e1] at q3
  have hj : j < n := by rw [← hn]; exact (List.getElem?_eq_some_iff.1 hx).1
  have p0 := congrArg (fun l : List Value => l[0]?) q3
  have p1 := congrArg (fun l : List Value => l[1]?) q3
  simp only [List.getElem?_take, List.getElem?_drop, List.getElem?_cons_zero, List.getElem?_cons_succ] at p0 p1
  rw [if_pos (by omega)] at p0 p1
  rw [← ht, List.getElem?_take, if_pos (by omega), Array.getElem?_toList] at p0 p1
  exact ⟨A1, c1, p0, p1, e2, e3⟩
set_option maxHeartbeats 1000000 in
set_option maxRecDepth 100000 in
theorem cloneB (A0 : Option Addr) (c0 : Nat) (boxes : List MBox) (w : World) (hr0 : Kd.C k80 w A0 boxes.length boxes) (hl : boxes.length < 4398046511104) (hpos : 0 < boxes.length) :
  Calls Try.prog 63 #[.slice A0 boxes.length c0] w fun e w' => ∃ g cap, e = .returned (.slice (some ⟨g, 0, none⟩) boxes.length cap) ∧ MV w w' g boxes.length cap 0 boxes [] := by
 obtain ⟨ad, rfl, _⟩ := hr0.2.2 hpos
 obtain ⟨rows, hC, hrl, hrel⟩ := raw_rows hr0
 have hrn : rows.length = boxes.length := hrl
 have HC := Aside0.mk hC
 have HL := Aside0.mk hl
 have HM := Aside0.mk (fun (W : World) (v : Value) (hw : Below w.heap.size w W) (h : Kd.R (Kd.raw 2) 80 W w.heap.size (fun _ => True) v rows) => MV_start hw rfl hpos hrn hrel h)
 have hu27 := Try.underlying31
 have he : Sem.run Try.prog (binOp .eql 31 (.slice (some ad) boxes.length c0) (.slice none 0 0)) w = .ok (.bool false) w := cloneB_eqnil _ _ hu27 (some ad) boxes.length c0 w
 clear hr0 hl hC hrel
 go_enter Try.func63, Try.ntmps63
 go_wp2_with (first | ((with_reducible refine gate_dst (N := 5) rfl ?_); refine Kd.R_lit (Kd.raw 2) _ 80 ?hg (N := 5) ?hd (xs := ([] : List (List Value))) (inner := []) (ok := fun _ => True) (okp := fun _ => True) ?hr ?hp (fun _ hk => hk) trivial (Below.refl _ _) (Nat.le_refl _) (by simp) ?_; (case hd => rfl); (case hg => rfl); (case hr => first | (go_simp; done) | (go_simp; rfl)); (case hp => exact (Reps.none _ _)); intro v1 w1 ho hb hg_ hnew_; clear hg_ hnew_; have HO := Aside0.mk ho; have HB := Aside0.mk hb; clear ho hb) | ((with_reducible refine gate_builtin (b := .append) (xs := #[.tmp 5, .tmp 6]) rfl ?_); refine Kd.R_append_rows (Kd.raw 2) (w0 := w) w.heap.size rfl (.tmp 5) (.tmp 6) _ 80 (.agg #[(.int .i64 0), (.slice none 0 0)]) 32 rfl (by kernel_rfl) info80 rfl (by decide) (by omega) v1 ([] : List (List Value)) rows _ _ _ (fun _ => True) (fun _ => False) rfl rfl ?aO ?aR (fun _ _ h => h) (fun _ h => h.elim) ?aF ?aB ?aS ?aL ?_; (case aR => exact Kd.C_below HC.out HB.out); (case aB => exact HB.out); (case aF => exact (fun _ _ => trivial)); (case aO => exact HO.out); (case aS => exact HB.out.size); (case aL => have := HL.out; simp; omega); intro v2 w2 ho hb hg_ hat_; have HO2 := Aside0.mk ho; have HB2 := Aside0.mk hb; clear ho hb hg_ hat_))
 go_ret
 have h := HO2.out
 rw [List.nil_append] at h
 obtain ⟨g, cap, e, M⟩ := HM.out _ _ HB2.out h
 exact ⟨g, cap, by rw [e]; rfl, M⟩
set_option maxHeartbeats 1000000 in
set_option maxRecDepth 100000 in
theorem cloneI (A0 : Option Addr) (c0 : Nat) (l0 : List Int) (w : World) (hr0 : Kd.C (Kd.int .i64) w A0 l0.length l0) (hl : l0.length < 4398046511104) :
  Calls Try.prog 65 #[.slice A0 l0.length c0] w fun e w' => ∃ v0_ : Value, e = .returned v0_ ∧ Kd.R (Kd.int .i64) 3 w' w.heap.size (fun _ => True) v0_ l0 ∧ Below w.heap.size w w' := by
 have HL := Aside0.mk hl
 have hu27 := Try.underlying26
 clear hl
 cases A0 with
 | none =>
  have hn : l0 = [] := by
   rcases l0 with _ | ⟨x, l⟩
   ·rfl
   ·obtain ⟨ad, e, _⟩ := hr0.2.2 (Nat.succ_pos _)
    exact absurd e (by simp)
  subst hn
  clear hr0
  have he : Sem.run Try.prog (binOp .eql 26 (.slice none 0 c0) (.slice none 0 0)) w = .ok (.bool true) w := cloneB_eqnil _ _ hu27 none 0 c0 w
  go_enter Try.func65, Try.ntmps65
  go_wp2
  go_ret
  exact ⟨_, rfl, Kd.R_nil _ _ _ _ _, Below.refl _ _⟩
 | some ad =>
  have HR0 := Aside0.mk hr0
  have he : Sem.run Try.prog (binOp .eql 26 (.slice (some ad) l0.length c0) (.slice none 0 0)) w = .ok (.bool false) w := cloneB_eqnil _ _ hu27 (some ad) l0.length c0 w
  clear hr0
  go_enter Try.func65, Try.ntmps65
  go_wp2_with (first | ((with_reducible refine gate_dst (N := 5) rfl ?_); refine Kd.R_lit (Kd.int .i64) _ 3 ?hg (N := 5) ?hd (xs := ([] : List Int)) (inner := []) (ok := fun _ => True) (okp := fun _ => True) ?hr ?hp (fun _ hk => hk) trivial (Below.refl _ _) (Nat.le_refl _) (by simp) ?_; (case hd => rfl); (case hg => rfl); (case hr => first | (go_simp; done) | (go_simp; rfl)); (case hp => exact (Reps.none _ _)); intro v1 w1 ho hb hg_ hnew_; clear hg_ hnew_; have HO := Aside0.mk ho; have HB := Aside0.mk hb; clear ho hb) | ((with_reducible refine gate_builtin (b := .append) (xs := #[.tmp 5, .tmp 6]) rfl ?_); refine Kd.R_append_rows (Kd.int .i64) (w0 := w) w.heap.size rfl (.tmp 5) (.tmp 6) _ 3 (.int .i64 0) 8 rfl (by kernel_rfl) info3 rfl (by decide) (by omega) v1 ([] : List Int) l0 _ _ _ (fun _ => True) (fun _ => False) rfl rfl ?aO ?aR (fun _ _ h => h) (fun _ h => h.elim) ?aF ?aB ?aS ?aL ?_; (case aO => exact HO.out); (case aR => exact Kd.C_below HR0.out HB.out); (case aF => exact (fun _ _ => trivial)); (case aB => exact HB.out); (case aS => exact HB.out.size); (case aL => have := HL.out; simp only [List.length_nil]; omega); intro v2 w2 ho hb hg hat; clear hg hat; have HO2 := Aside0.mk ho; have HB2 := Aside0.mk hb; clear ho hb))
  go_ret
  exact ⟨_, rfl, HO2.out, HB2.out⟩
end Go.Proofs.Ytdbhelhoaciodaa.X
set_option linter.unusedVariables false
namespace Go.Proofs.Ytdbhelhoaciodaa.X
open Go.RowKit Go.Proofs.YtdbhelhoaciodaaW.PrintWords Go.Proofs.YtdbhelhoaciodaaW.PrintLast Go.Proofs.YtdbhelhoaciodaaW.PrintMore Go.Proofs.Ytdbhelhoaciodaa.E
set_option maxHeartbeats 1000000 in
set_option maxRecDepth 100000 in
theorem idxFunc105 (A_ : Option Addr) (c_ : Nat) (l0 : List (S80)) (g : Nat) (lb : Array Value) (p : S80 → Bool) (w : World)
  (hr0 : Kd.C k80 w A_ l0.length l0) (eg : ∀ args w, (callFunc g args).run Try.prog w = .ok (.enter g args) w)
  (hp : ∀ (W : World) (x : S80) (A1 : Option Addr) (c1 : Nat), x ∈ l0 → Below w.heap.size w W → x.f1.length ≤ c1 → Kd.C (Kd.int .i64) W A1 x.f1.length x.f1 → Calls Try.prog g (#[.agg #[.int .i64 x.f0, .slice A1 x.f1.length c1]] ++ lb) W fun e w' => e = .returned (.bool (p x)) ∧ Below W.heap.size W w') :
  Calls Try.prog 105 #[.slice A_ l0.length c_, .func (.func g) #[] lb] w fun e w' => e = .returned (.int .i64 (idxG p 0 l0)) ∧ Below w.heap.size w w' := by
 have hu80 := Try.underlying80
 have HL := Aside0.mk hr0.2.1
 have HR0 := Aside0.mk hr0
 have HP := Aside0.mk hp
 clear hr0 hp
 go_enter Try.func105, Try.ntmps105
 go_wp2
 go_loopg [5, 8] l0.length (fun gg _ s8 wr => ∃ x8 : Int, s8 = .int .i64 x8 ∧ Aside0 (0 ≤ x8) ∧ Aside0 (x8 ≤ (l0.length : Int)) ∧ Aside0 ((l0.length : Int) - x8 ≤ (gg : Int)) ∧ Aside0 (Below w.heap.size w wr) ∧ Aside0 (∀ (m : Nat) y, (m : Int) < x8 → l0[m]? = some y → p y = false))
 case atStart => exact ⟨0, rfl, ⟨by omega⟩, ⟨by omega⟩, ⟨by omega⟩, ⟨Below.refl _ _⟩, ⟨fun m y hm => by omega⟩⟩
 case round =>
  obtain ⟨x8, rfl, H0, H1, HG, HB, HN⟩ := hrel
  by_cases c : x8 < (l0.length : Int)
  ·have p1 := H0.out
   have q1 := c
   have cb : decide (x8 < (l0.length : Int)) = true := decide_eq_true c
   obtain ⟨ad, A1, c1, e, hx0, hx1, hl1, hi1⟩ := at_T80 (Kd.C_below HR0.out HB.out) x8 p1 q1
   cases e
   replace p1 := eq_true p1
   replace q1 := eq_true q1
   have hel : l0[x8.toNat]? = some (rd_T80 l0 x8) := by
    have := H0.out
    unfold rd_T80
    rw [List.getD_eq_getElem?_getD, List.getElem?_eq_getElem (show x8.toNat < l0.length by omega), Option.getD_some]
   have hcall := HP.out wr (rd_T80 l0 x8) A1 c1 (List.mem_of_getElem? hel) HB.out hl1 hi1
   clear hl1 hi1
   have HE := Aside0.mk hel
   clear hel
   have hwr : wrap64 (x8 + 1) = x8 + 1 := wrap_id (by have := H0.out; omega) (by have := HL.out; omega)
   cases hq : p (rd_T80 l0 x8) with
   | true =>
    rw [hq] at hcall
    have HQ := Aside0.mk hq
    clear hq
    go_wp2_with (go_at_fn g; refine hcall.mono ?_; rintro e w' ⟨rfl, hb⟩)
    go_ret
    refine ⟨?_, ?_⟩
    ·rw [idxG_here HE.out HQ.out (fun m y hm => HN.out m y (by have := H0.out; omega))]
     have := H0.out
     rw [Int.toNat_of_nonneg (by omega)]
     rfl
    ·exact below_step HB.out hb
   | false =>
    rw [hq] at hcall
    have HQ := Aside0.mk hq
    clear hq
    go_wp2_with (go_at_fn g; refine hcall.mono ?_; rintro e w' ⟨rfl, hb⟩)
    go_roundg (l0.length - (x8.toNat + 1))
    case measure => have := HG.out; have := H0.out; omega
    case rel =>
     refine ⟨x8 + 1, by simp [*], ⟨by have := H0.out; omega⟩, ⟨by omega⟩, ⟨by have := H0.out; omega⟩, ⟨below_step HB.out hb⟩, ⟨fun m y hm hy => ?_⟩⟩
     by_cases e : (m : Int) = x8
     ·have : x8.toNat = m := by omega
      rw [← this, HE.out] at hy
      cases hy
      exact HQ.out
     ·exact HN.out m y (by omega) hy
  ·have cb : decide (x8 < (l0.length : Int)) = false := decide_eq_false c
   have e : x8 = (l0.length : Int) := by have := H1.out; omega
   have HE := Aside0.mk e
   clear e
   go_wp2
   go_ret
   refine ⟨?_, HB.out⟩
   rw [idxG_none (fun m y hm => HN.out m y (by rw [HE.out]; omega))]
   rfl
end Go.Proofs.Ytdbhelhoaciodaa.X
set_option linter.unusedVariables false
namespace Go.Proofs.Ytdbhelhoaciodaa.X
open Go.RowKit Go.Proofs.YtdbhelhoaciodaaW.PrintWords Go.Proofs.YtdbhelhoaciodaaW.PrintLast Go.Proofs.YtdbhelhoaciodaaW.PrintMore Go.Proofs.Ytdbhelhoaciodaa.E
set_option maxHeartbeats 1000000 in
set_option maxRecDepth 100000 in
theorem containsFunc52 (A_ : Option Addr) (c_ : Nat) (l0 : List (S80)) (g : Nat) (lb : Array Value) (p : S80 → Bool) (w : World)
  (hr0 : Kd.C k80 w A_ l0.length l0) (eg : ∀ args w, (callFunc g args).run Try.prog w = .ok (.enter g args) w)
  (hp : ∀ (W : World) (x : S80) (A1 : Option Addr) (c1 : Nat), x ∈ l0 → Below w.heap.size w W → x.f1.length ≤ c1 → Kd.C (Kd.int .i64) W A1 x.f1.length x.f1 → Calls Try.prog g (#[.agg #[.int .i64 x.f0, .slice A1 x.f1.length c1]] ++ lb) W fun e w' => e = .returned (.bool (p x)) ∧ Below W.heap.size W w') :
  Calls Try.prog 52 #[.slice A_ l0.length c_, .func (.func g) #[] lb] w fun e w' => e = .returned (.bool (l0.any p)) ∧ Below w.heap.size w w' := by
 have C := Aside0.mk (idxFunc105 A_ c_ l0 g lb p w hr0 eg hp)
 have hn := Aside0.mk (idxG_nonneg p l0 0)
 clear hr0 hp
 go_enter Try.func52, Try.ntmps52
 go_wp2_with (go_at_call 105; refine C.out.mono ?_; rintro e w' ⟨rfl, hb⟩)
 go_ret
 refine ⟨?_, hb⟩
 rw [← hn.out]
 rfl
end Go.Proofs.Ytdbhelhoaciodaa.X
set_option linter.unusedVariables false
namespace Go.Proofs.Ytdbhelhoaciodaa.X
open Go.RowKit Go.Proofs.YtdbhelhoaciodaaW.PrintWords Go.Proofs.YtdbhelhoaciodaaW.PrintLast Go.Proofs.YtdbhelhoaciodaaW.PrintMore Go.Proofs.Ytdbhelhoaciodaa.E
theorem zeroCells_mem (z : Array Value) (m : Nat) (v : Value) (h : v ∈ (Builtin.zeroCells z m).toList) : v ∈ z.toList := by
 unfold Builtin.zeroCells at h
 rw [Array.toList_map, List.mem_map] at h
 obtain ⟨i, hi, rfl⟩ := h
 have hi' : i < m * z.size := by simpa using hi
 have hp : 0 < z.size := by
  rcases Nat.eq_zero_or_pos z.size with h0 | h0
  ·rw [h0, Nat.mul_zero] at hi'
   omega
  ·exact h0
 have hlt : i % z.size < z.size := Nat.mod_lt _ hp
 rw [getElem!_pos z _ hlt]
 exact Array.getElem_mem_toList hlt
theorem R_clear {P : Program} {α : Type} (d : Kd α) {W w0 : World} {base e t ty g n cap c i bytes : Nat} {ok : Nat → Prop} {xs : List α} (z : Value) (ht : P.underlying t = some (.slice e)) (hinfo : (P.info? e).map (fun i => (i.zero, i.size, i.bytes)) = some (some z, d.sz, bytes)) (hz : z.cells.size = d.sz) (h1 : z.cells.toList.all (fun q => q.oneCell') = true)
  (HO : Kd.R d e W base ok (.slice (some ⟨g, 0, none⟩) n cap) xs) (hi : i < n) (HB : Below base w0 W) :
  ∃ w1, (Builtin.clear_ #[t] ty #[.slice (some ⟨g, i * d.sz, none⟩) (n - i) c]).run P W = .ok (.tuple #[]) w1 ∧ Kd.R d e w1 base ok (.slice (some ⟨g, 0, none⟩) i cap) (xs.take i) ∧ Below base w0 w1 := by
 obtain ⟨i0, hi0, hzz⟩ := Option.map_eq_some_iff.1 hinfo
 simp only [Prod.mk.injEq] at hzz
 have hv : ∀ w, (zeroValue e).run P w = .ok z w := fun w => by simp [zeroValue, typeInfo, hi0, hzz.1]
 obtain ⟨hn, hnc, _⟩ := Kd.R_reads' HO
 obtain ⟨hok, inner, ⟨hl, ho⟩, hr⟩ := Kd.R_take HO (m := i) (by omega)
 obtain ⟨m, hm⟩ : ∃ m, n - i = m + 1 := ⟨n - i - 1, by omega⟩
 obtain ⟨vs, hvs⟩ : ∃ vs, vs = (Builtin.zeroCells z.cells (m + 1)).toList := ⟨_, rfl⟩
 have hlen : vs.length = (n - i) * d.sz := by rw [hvs, hm, ← hz]; simp [Builtin.zeroCells]
 have h1s : ∀ v ∈ vs, v.oneCell' = true := fun v hv' => List.all_eq_true.1 h1 v (zeroCells_mem _ _ _ (hvs ▸ hv'))
 rcases ho with ⟨hv', _⟩ | ⟨g', cap', cur, hv', hb, hh, hnc', hcm, hcs, hct⟩
 ·cases hv'
 injection hv' with ha _ hc
 injection ha with ha
 injection ha with hg
 subst hg; subst hc
 have hfit : i * d.sz + vs.length ≤ cur.size := by
  rw [hlen, ← Nat.add_mul, hcs]
  exact Nat.mul_le_mul_right _ (by omega)
 obtain ⟨cur', h3, h4, h5⟩ := setCells_row vs (i * d.sz) W cur hh hfit
 obtain ⟨s1, s2, s3, s4⟩ := setCells_same g vs (i * d.sz) W
 have hli : (xs.take i).length = i := by rw [List.length_take]; omega
 refine ⟨W.setCells g (i * d.sz) vs, ?_, ⟨hok, inner, ⟨hl, .inr ⟨g, cap, cur', by rw [hli], hb, h3, hnc', hcm, h4.trans hcs, ?_⟩⟩, hr.imp_ (fun _ _ hp => d.M_move (fun k hk => setCells_far vs _ k (fun e => hk.2 (by rw [e]; rfl))) hp)⟩, HB.trans ⟨s1, s2, s3, by rw [s4]; exact Nat.le_refl _, fun k hk => setCells_far vs _ k (by omega)⟩⟩
 ·have hst := run_storeCells_cells (P := P) g (i * d.sz) vs 0 W (fun j hj => by rw [cell_of_row W g _ cur e (0, 0) hh]; simp; omega) (fun j _ => blk_frozen hh _) h1s
  simp only [Nat.add_zero] at hst
  rw [hvs] at hst ⊢
  simp [Builtin.clear_, run_underlying ht, hv, hm, hst]
 ·rw [hli] at hct ⊢
  have hb2 : i * d.sz ≤ cur.toList.length := by rw [Array.length_toList]; omega
  rw [h5, List.append_assoc, List.take_append_of_le_length (by rw [List.length_take]; omega), List.take_take, Nat.min_self]
  exact hct
theorem R_at0 {α : Type} {d : Kd α} {W : World} {base e : Nat} {ok : Nat → Prop} {v : Value} {xs : List α} (HO : Kd.R d e W base ok v xs) (hn : 0 < xs.length) : ∃ g cap, v = .slice (some ⟨g, 0, none⟩) xs.length cap := by
 obtain ⟨_, inner, ⟨_, ho⟩, _⟩ := HO
 rcases ho with ⟨_, h0⟩ | ⟨g, cap, cur, hv, _⟩
 ·omega
 ·exact ⟨g, cap, hv⟩
end Go.Proofs.Ytdbhelhoaciodaa.X
set_option linter.unusedVariables false
namespace Go.Proofs.Ytdbhelhoaciodaa.X
open Go.RowKit Go.Proofs.YtdbhelhoaciodaaW.PrintWords Go.Proofs.YtdbhelhoaciodaaW.PrintLast Go.Proofs.YtdbhelhoaciodaaW.PrintMore Go.Proofs.Ytdbhelhoaciodaa.E
set_option maxHeartbeats 1000000 in
set_option maxRecDepth 100000 in
theorem idxFunc111 (A_ : Option Addr) (c_ : Nat) (l0 : List (Int)) (g : Nat) (lb : Array Value) (p : Int → Bool) (w : World)
  (hr0 : Kd.C (Kd.int .i64) w A_ l0.length l0) (eg : ∀ args w, (callFunc g args).run Try.prog w = .ok (.enter g args) w)
  (hp : ∀ (W : World) (x : Int), x ∈ l0 → Below w.heap.size w W → Calls Try.prog g (#[.int .i64 x] ++ lb) W fun e w' => e = .returned (.bool (p x)) ∧ Below W.heap.size W w') :
  Calls Try.prog 111 #[.slice A_ l0.length c_, .func (.func g) #[] lb] w fun e w' => e = .returned (.int .i64 (idxG p 0 l0)) ∧ Below w.heap.size w w' := by
 have HL := Aside0.mk hr0.2.1
 have HR0 := Aside0.mk hr0
 have HP := Aside0.mk hp
 clear hr0 hp
 go_enter Try.func111, Try.ntmps111
 go_wp2
 go_loopg [5, 8] l0.length (fun gg _ s8 wr => ∃ x8 : Int, s8 = .int .i64 x8 ∧ Aside0 (0 ≤ x8) ∧ Aside0 (x8 ≤ (l0.length : Int)) ∧ Aside0 ((l0.length : Int) - x8 ≤ (gg : Int)) ∧ Aside0 (Below w.heap.size w wr) ∧ Aside0 (∀ (m : Nat) y, (m : Int) < x8 → l0[m]? = some y → p y = false))
 case atStart => exact ⟨0, rfl, ⟨by omega⟩, ⟨by omega⟩, ⟨by omega⟩, ⟨Below.refl _ _⟩, ⟨fun m y hm => by omega⟩⟩
 case round =>
  obtain ⟨x8, rfl, H0, H1, HG, HB, HN⟩ := hrel
  by_cases c : x8 < (l0.length : Int)
  ·have p1 := H0.out
   have q1 := c
   have cb : decide (x8 < (l0.length : Int)) = true := decide_eq_true c
   obtain ⟨ad, e, hx0⟩ := Kd.at_int (Kd.C_below HR0.out HB.out) x8 p1 q1
   cases e
   replace p1 := eq_true p1
   replace q1 := eq_true q1
   have hel : l0[x8.toNat]? = some (rd l0 x8) := by
    have := H0.out
    unfold rd
    rw [List.getD_eq_getElem?_getD, List.getElem?_eq_getElem (show x8.toNat < l0.length by omega), Option.getD_some]
   have hcall := HP.out wr (rd l0 x8) (List.mem_of_getElem? hel) HB.out
   have HE := Aside0.mk hel
   clear hel
   have hwr : wrap64 (x8 + 1) = x8 + 1 := wrap_id (by have := H0.out; omega) (by have := HL.out; omega)
   cases hq : p (rd l0 x8) with
   | true =>
    rw [hq] at hcall
    have HQ := Aside0.mk hq
    clear hq
    go_wp2_with (go_at_fn g; refine hcall.mono ?_; rintro e w' ⟨rfl, hb⟩)
    go_ret
    refine ⟨?_, ?_⟩
    ·rw [idxG_here HE.out HQ.out (fun m y hm => HN.out m y (by have := H0.out; omega))]
     have := H0.out
     rw [Int.toNat_of_nonneg (by omega)]
     rfl
    ·exact below_step HB.out hb
   | false =>
    rw [hq] at hcall
    have HQ := Aside0.mk hq
    clear hq
    go_wp2_with (go_at_fn g; refine hcall.mono ?_; rintro e w' ⟨rfl, hb⟩)
    go_roundg (l0.length - (x8.toNat + 1))
    case measure => have := HG.out; have := H0.out; omega
    case rel =>
     refine ⟨x8 + 1, by simp [*], ⟨by have := H0.out; omega⟩, ⟨by omega⟩, ⟨by have := H0.out; omega⟩, ⟨below_step HB.out hb⟩, ⟨fun m y hm hy => ?_⟩⟩
     by_cases e : (m : Int) = x8
     ·have : x8.toNat = m := by omega
      rw [← this, HE.out] at hy
      cases hy
      exact HQ.out
     ·exact HN.out m y (by omega) hy
  ·have cb : decide (x8 < (l0.length : Int)) = false := decide_eq_false c
   have e : x8 = (l0.length : Int) := by have := H1.out; omega
   have HE := Aside0.mk e
   clear e
   go_wp2
   go_ret
   refine ⟨?_, HB.out⟩
   rw [idxG_none (fun m y hm => HN.out m y (by rw [HE.out]; omega))]
   rfl
end Go.Proofs.Ytdbhelhoaciodaa.X
set_option linter.unusedVariables false
namespace Go.Proofs.Ytdbhelhoaciodaa.X
open Go.RowKit Go.Proofs.YtdbhelhoaciodaaW.PrintWords Go.Proofs.YtdbhelhoaciodaaW.PrintLast Go.Proofs.YtdbhelhoaciodaaW.PrintMore Go.Proofs.Ytdbhelhoaciodaa.E
theorem filter_take_succ {α : Type} (p : α → Bool) (l : List α) (j : Nat) (x : α) (h : l[j]? = some x) : (l.take (j + 1)).filter p = (l.take j).filter p ++ (if p x = true then [x] else []) := by
 obtain ⟨hl, hx⟩ := List.getElem?_eq_some_iff.1 h
 rw [List.take_succ_eq_append_getElem hl, List.filter_append, hx]
 congr 1
 cases hp : p x <;> simp [hp]
theorem take_set_succ {α : Type} (l : List α) (i : Nat) (x : α) (h : i < l.length) : (l.set i x).take (i + 1) = l.take i ++ [x] := by
 rw [List.take_succ_eq_append_getElem (by rw [List.length_set]; exact h), List.getElem_set_self, List.take_set_of_le (Nat.le_refl i)]
set_option maxHeartbeats 4000000 in
set_option maxRecDepth 100000 in
theorem deleteFunc64 (v : Value) (l0 : List (Int)) (g : Nat) (lb : Array Value) (p : Int → Bool) (w w0 : World) (base : Nat) (hbs : base ≤ w.heap.size) (hl : l0.length < 4398046511104)
  (HO : Kd.R (Kd.int .i64) 3 w base (fun _ => True) v l0) (HB0 : Below base w0 w) (eg : ∀ args w, (callFunc g args).run Try.prog w = .ok (.enter g args) w)
  (hp : ∀ (W : World) (x : Int), x ∈ l0 → Below base w0 W → Calls Try.prog g (#[.int .i64 x] ++ lb) W fun e w' => e = .returned (.bool (p x)) ∧ Below W.heap.size W w') :
  Calls Try.prog 64 #[v, .func (.func g) #[] lb] w fun e w' => ∃ v1, e = .returned v1 ∧ Kd.R (Kd.int .i64) 3 w' base (fun _ => True) v1 (l0.filter (fun x => !p x)) ∧ Below base w0 w' := by
 have hust := Try.underlying26
 obtain ⟨A_, c_, rfl, hlc, hC⟩ := Kd.R_reads HO
 have hI := idxFunc111 A_ c_ l0 g lb p w hC eg (fun W x hx hb => hp W x hx (HB0.trans (hb.mono hbs)))
 rcases idxG_spec p l0 0 with ⟨h1, h2⟩ | ⟨j0, x0, h1, h2, h3, h4, h5, h6⟩
 ·rw [h1] at hI
  have HI := Aside0.mk hI
  have HF := Aside0.mk (List.filter_eq_self.2 (fun x hx => by show (!p x) = true; rw [h2 x hx]; rfl : ∀ x ∈ l0, (fun x => !p x) x = true))
  have HR0 := Aside0.mk HO
  have HB := Aside0.mk HB0
  clear hI h1 h2 HO HB0 hp hC
  go_enter Try.func64, Try.ntmps64
  go_wp2_with (go_at_call 111; refine HI.out.mono ?_; rintro e w' ⟨rfl, hb⟩)
  go_ret
  exact ⟨_, rfl, by rw [HF.out]; exact Kd.R_below HR0.out hb, HB.out.trans (hb.mono hbs)⟩
 rw [h2, Nat.zero_add] at hI
 have hn0 : 0 < l0.length := by omega
 obtain ⟨gb, cp, hv⟩ := R_at0 HO hn0
 obtain ⟨rfl, rfl⟩ : A_ = some ⟨gb, 0, none⟩ ∧ c_ = cp := by injection hv with a b c; exact ⟨a, c⟩
 have HI := Aside0.mk hI
 have HR0 := Aside0.mk HO
 have HB := Aside0.mk HB0
 have HP := Aside0.mk hp
 have HH := Aside0.mk h6
 have H4 := Aside0.mk (And.intro h3 h4)
 clear hI h2 HO HB0 hp hC hv h6 h5 h3 h4 hlc
 have hne1 : ((j0 : Int) == -1) = false := beq_eq_false_iff_ne.2 (by omega)
 go_enter Try.func64, Try.ntmps64
 go_wp2_with (go_at_call 111; refine HI.out.mono ?_; rintro e w1 ⟨rfl, hb⟩)
 have HR1 := Aside0.mk (Kd.R_below HR0.out hb)
 have HB1 := Aside0.mk (HB.out.trans (hb.mono hbs))
 have HS1 := Aside0.mk (Nat.le_trans hbs hb.size)
 clear hb HR0 HI HB
 have HADD := Aside0.mk (fun m => by unfold Addr.add; split <;> simp_all : ∀ m : Nat, (⟨gb, 0, none⟩ : Addr).add m = ⟨gb, m, none⟩)
 go_loopg [5, 6, 7] l0.length (fun gg s5 s6 _ wr => ∃ (i j : Int) (xs : List (Int)), s5 = .int .i64 i ∧ s6 = .int .i64 j ∧ Aside0 (0 ≤ i ∧ i < j) ∧ Aside0 (j ≤ (l0.length : Int)) ∧ Aside0 ((l0.length : Int) - j ≤ (gg : Int)) ∧ Aside0 (xs.length = l0.length) ∧ Aside0 (Kd.R (Kd.int .i64) 3 wr base (fun _ => True) (.slice (some ⟨gb, 0, none⟩) l0.length c_) xs) ∧ Aside0 (Below base w0 wr) ∧ Aside0 (base ≤ wr.heap.size) ∧ Aside0 (xs.take i.toNat = (l0.take j.toNat).filter (fun x => !p x)) ∧ Aside0 (xs.drop j.toNat = l0.drop j.toNat))
 case atStart =>
  refine ⟨(j0 : Int), (j0 : Int) + 1, l0, rfl, by go_num, ⟨by omega⟩, ⟨by omega⟩, ⟨by omega⟩, ⟨rfl⟩, HR1, HB1, HS1, ⟨?_⟩, ⟨rfl⟩⟩
  rw [Int.toNat_natCast, show ((j0 : Int) + 1).toNat = j0 + 1 by omega, filter_take_succ _ _ _ _ H4.out.1, H4.out.2, if_neg (by simp), List.append_nil]
  refine (List.filter_eq_self.2 fun x hx => ?_).symm
  obtain ⟨m, hm, e⟩ := List.mem_iff_getElem.1 hx
  rw [List.length_take] at hm
  rw [List.getElem_take] at e
  show (!p x) = true
  rw [HH.out m x (by omega) (by rw [← e]; exact List.getElem?_eq_getElem _)]
  rfl
 case round =>
  obtain ⟨i, j, xs, rfl, rfl, Hij, Hj, Hg, Hxl, HR, HB, HS, HT, HD⟩ := hrel
  by_cases c : j < (l0.length : Int)
  ·have cb : decide (j < (l0.length : Int)) = true := decide_eq_true c
   have q0 : 0 ≤ j := by have := Hij.out; omega
   have q1 : 0 ≤ i := Hij.out.1
   have q2 : i < (l0.length : Int) := by have := Hij.out; omega
   have hxl := Hxl.out
   have hCx := (Kd.R_reads' HR.out).2.2
   rw [hxl] at hCx
   obtain ⟨ad, e, hx0⟩ := Kd.at_int hCx j q0 c
   cases e
   simp only [HADD.out] at hx0
   have hel : xs[j.toNat]? = some (rd xs j) := by
    unfold rd
    rw [List.getD_eq_getElem?_getD, List.getElem?_eq_getElem (show j.toNat < xs.length by omega), Option.getD_some]
   have hel0 : l0[j.toNat]? = some (rd xs j) := by
    have h7 := congrArg (fun l : List (Int) => l[0]?) HD.out
    simp only [List.getElem?_drop, Nat.add_zero] at h7
    rw [← h7]
    exact hel
   have HE := Aside0.mk hel0
   have HC := Aside0.mk (fun W (hb : Below base w0 W) => HP.out W (rd xs j) (List.mem_of_getElem? hel0) hb)
   clear hel hel0 hCx hxl
   have hwr : wrap64 (j + 1) = j + 1 := wrap_id (by omega) (by have := hl; omega)
   have hwi : wrap64 (i + 1) = i + 1 := wrap_id (by omega) (by have := hl; omega)
   cases hq : p (rd xs j) with
   | true =>
    have hc0 := HC.out
    simp only [hq] at hc0
    have HC1 := Aside0.mk hc0
    have HQ := Aside0.mk hq
    clear hq hc0 HC
    go_wp2_with (go_at_fn g; refine (HC1.out _ ?sb).mono ?_; (case sb => exact HB.out); (rintro e w3 ⟨rfl, hb⟩))
    have HB3 := Aside0.mk ((HB.out).trans (hb.mono (by exact HS.out)))
    have HS3 := Aside0.mk (Nat.le_trans (by exact HS.out : base ≤ _) hb.size)
    have HR3 := Aside0.mk (Kd.R_below (HR.out) hb)
    clear hb
    go_roundg ((l0.length : Int) - (j + 1)).toNat
    case measure => have := Hg.out; have := Hij.out; omega
    case rel =>
     refine ⟨i, j + 1, xs, rfl, by simp [*], ⟨by omega, by have := Hij.out; omega⟩, ⟨by omega⟩, ⟨by omega⟩, Hxl, HR3, HB3, HS3, ⟨?_⟩, ⟨?_⟩⟩
     ·rw [show (j + 1).toNat = j.toNat + 1 by omega, filter_take_succ _ _ _ _ HE.out, HQ.out, if_neg (by simp), List.append_nil]
      exact HT.out
     ·rw [show (j + 1).toNat = j.toNat + 1 by omega, ← List.drop_drop, HD.out, List.drop_drop]
   | false =>
    have hc0 := HC.out
    simp only [hq] at hc0
    have HC1 := Aside0.mk hc0
    have HQ := Aside0.mk hq
    clear hq hc0 HC
    go_wp2_with (first | (go_at_fn g; refine (HC1.out _ ?sb).mono ?_; (case sb => exact HB.out); (rintro e w3 ⟨rfl, hb⟩); skip; have HB3 := Aside0.mk ((HB.out).trans (hb.mono (by exact HS.out))); have HS3 := Aside0.mk (Nat.le_trans (by exact HS.out : base ≤ _) hb.size); have HR3 := Aside0.mk (Kd.R_below (HR.out) hb); clear hb) | ((with_reducible refine gate_store (t := 3) (p := 33) rfl ?_); (obtain ⟨ad, e, hy0⟩ := Kd.at_int (Hxl.out ▸ (Kd.R_reads' HR3.out).2.2) i q1 q2); cases e; simp only [HADD.out] at hy0; refine Kd.R_store (Kd.int .i64) (w0 := w0) base rfl rfl 3 (.tmp 33) (.tmp 32) rfl 3 i 0 xs (rd xs j) (.int .i64 (rd xs j)) [.int .i64 (rd xs j)] [.int .i64 (rd xs i)] (fun _ => True) (fun _ => False) rfl (by first | rfl | (show _ = i.toNat * 1 + 0; omega)) rfl rfl (by kernel_rfl) (by intro q hq; simp at hq; rcases hq with rfl | rfl <;> rfl) HR3.out q1 q2 rfl ?acc (Nat.le_refl _) (rfl) (fun _ h => h.elim) HB3.out ?_; (case acc => intro m u hm; (rcases m with _ | m); (cases hm; first | exact hy0 | (show World.cell? _ ⟨_, i.toNat * 1 + 0, none⟩ = _; rw [Nat.mul_one]; exact hy0)); cases hm); intro w4 hr4 hb4 hg4; have HR4 := Aside0.mk hr4; have HB4 := Aside0.mk hb4; have HS4 := Aside0.mk (Nat.le_trans HS3.out hg4.size); clear hr4 hb4 hg4 hy0 HR3 HB3 HS3))
    go_roundg ((l0.length : Int) - (j + 1)).toNat
    case measure => have := Hg.out; have := Hij.out; omega
    case rel =>
     have hln := Hxl.out
     have hij := Hij.out
     refine ⟨i + 1, j + 1, xs.set i.toNat (rd xs j), by simp [*], by simp [*], ⟨by omega, by omega⟩, ⟨by omega⟩, ⟨by omega⟩, ⟨by rw [List.length_set]; exact hln⟩, HR4, HB4, HS4, ⟨?_⟩, ⟨?_⟩⟩
     ·rw [show (i + 1).toNat = i.toNat + 1 by omega, show (j + 1).toNat = j.toNat + 1 by omega, filter_take_succ _ _ _ _ HE.out, HQ.out, if_pos (by rfl), take_set_succ _ _ _ (by omega), HT.out]
     ·rw [show (j + 1).toNat = j.toNat + 1 by omega, List.drop_set_of_lt (by omega), ← List.drop_drop, HD.out, List.drop_drop]
  ·have cb : decide (j < (l0.length : Int)) = false := decide_eq_false c
   have e : j = (l0.length : Int) := by have := Hj.out; omega
   have HE := Aside0.mk e
   clear e
   have hbz := Nat.le_refl 0
   have hnc := (Kd.R_reads' HR.out).2.1
   have hij : i.toNat < l0.length := by have := Hij.out; have := HE.out; omega
   obtain ⟨w2, hcl, hR2, hB2⟩ := R_clear (Kd.int .i64) (.int .i64 0) (ty := 0) (c := c_ - i.toNat) hust info3 rfl rfl HR.out hij HB.out
   replace hcl : (Builtin.clear_ #[26] 0 #[.slice (some ⟨gb, i.toNat, none⟩) (l0.length - i.toNat) (c_ - i.toNat)]).run Try.prog wr = .ok (.tuple #[]) w2 := by
    have h9 := hcl
    rw [show i.toNat * (Kd.int .i64).sz = i.toNat from Nat.mul_one _] at h9
    exact h9
   have HR2 := Aside0.mk hR2
   have HB2 := Aside0.mk hB2
   have hne2 : ¬ c_ = i.toNat := by omega
   have hi1 : i ≤ (l0.length : Int) := by omega
   have hi2 : i.toNat ≤ c_ := by omega
   have hi3 : i ≤ (c_ : Int) := by omega
   have q1 : 0 ≤ i := Hij.out.1
   clear hR2 hB2 hbz
   go_wp2
   go_ret
   refine ⟨_, rfl, ?_, HB2.out⟩
   have h8 := HT.out
   rw [HE.out, Int.toNat_natCast, List.take_length] at h8
   rw [← h8]
   exact HR2.out
end Go.Proofs.Ytdbhelhoaciodaa.X
namespace Go.Proofs.Ytdbhelhoaciodaa.X
open Go.RowKit Go.Proofs.YtdbhelhoaciodaaW.PrintWords Go.Proofs.YtdbhelhoaciodaaW.PrintLast Go.Proofs.YtdbhelhoaciodaaW.PrintMore Go.Proofs.Ytdbhelhoaciodaa.E
attribute [local go_sem] max2_int min2_int max_two min_two max_three min_three max_four min_four
set_option linter.unusedVariables false
set_option linter.unusedSimpArgs false
attribute [-simp] ByteArray.size_append ByteArray.size_extract
attribute [-go_sem] ByteArray.size_append'
/-! ### impl_MoveItem: function 22 -/
theorem mvLit1 (x : MBox) (A1 : Option Addr) (c1 : Nat) (a : Int) (B : Nat) (w : World) (hc : w.cell? ⟨B, 0, none⟩ = some (.int .i64 a)) :
  Calls Try.prog 62 #[.agg #[.int .i64 x.f0, .slice A1 x.f1.length c1], .pointer (some ⟨B, 0, none⟩)] w fun e w' => e = .returned (.bool (x.f0 == a)) ∧ Below w.heap.size w w' := by
 (have hu80 := Try.underlying80); (have hc' : ∀ o : Obj, (w.alloc o).cell? ⟨B, 0, none⟩ = some (.int .i64 a) := fun o => ((((Below.refl _ _).alloc (Nat.le_refl _) o).cell (p := ⟨B, 0, none⟩) (bltc w _ hc))).trans hc); (go_enter Try.func62, Try.ntmps62); (go_wp2); go_ret; (exact ⟨rfl, (Below.refl _ _).alloc (Nat.le_refl _) _⟩)
theorem mvLit2 (x : Int) (a : Int) (B : Nat) (w : World) (hc : w.cell? ⟨B, 0, none⟩ = some (.int .i64 a)) :
  Calls Try.prog 66 #[.int .i64 x, .pointer (some ⟨B, 0, none⟩)] w fun e w' => e = .returned (.bool (x == a)) ∧ Below w.heap.size w w' := by
 (go_enter Try.func66, Try.ntmps66); (go_wp2); go_ret; (exact ⟨rfl, Below.refl _ _⟩)
def mvList (number tt : Int) (x : MBox) : List Int := if x.f0 = tt then ((x.f1.filter (fun n => !(n == number))) ++ [number]).mergeSort (fun x y => decide (x ≤ y)) else x.f1.filter (fun n => !(n == number))
def mvBoxes (number tt : Int) (l : List MBox) : List MBox := l.map (fun x => ⟨x.f0, mvList number tt x⟩)
def mvSmall (l : List MBox) : Bool := decide (l.length < 4398046511104) && l.all (fun x => decide (x.f1.length < 4398046511104))
def impl_MoveItem.f (k : Nat) (l0 : List (S83)) (l1 : List (S80)) (a2 : Int) (a3 : Int) (a4 : Int) : Option ((List (S80)) × Bool) :=
 (impl_IsValidArchive.f k l0 l1 a2).bind fun t => (if t = true then ((impl_itemOf.f l0 a3).bind fun q => (if q < 0 then (some ([], false)) else (if l1.any (fun b => b.f0 == a4) = true then (if mvSmall l1 = true then ((impl_IsValidArchive.f k l0 (mvBoxes a3 a4 l1) a2).bind fun t2 => (if t2 = true then (some (mvBoxes a3 a4 l1, true)) else (some ([], false)))) else none) else (some ([], false))))) else (some ([], false)))
theorem box2 (w : World) (o1 o2 : Obj) : ((w.alloc o1).alloc o2).heap[w.heap.size]? = some o1 ∧ ((w.alloc o1).alloc o2).heap[w.heap.size + 1]? = some o2 ∧ Below w.heap.size w ((w.alloc o1).alloc o2) := by
 (refine ⟨?_, ?_, ((Below.refl _ _).alloc (Nat.le_refl _) _).alloc (show w.heap.size ≤ (w.heap.push o1).size by simp) _⟩); (· (show ((w.heap.push o1).push o2)[w.heap.size]? = some o1); (simp [Array.getElem?_push])); (· (show ((w.heap.push o1).push o2)[w.heap.size + 1]? = some o2); (rw [show w.heap.size + 1 = (w.heap.push o1).size by simp]); (exact Array.getElem?_push_size))
set_option maxHeartbeats 4000000 in
set_option maxRecDepth 100000 in
theorem impl_MoveItem.calls (k : Nat) (A0 : Option Addr) (c0 : Nat) (l0 : List (S83)) (A1 : Option Addr) (c1 : Nat) (l1 : List (S80)) (a2 : Int) (a3 : Int) (a4 : Int) (r1 : List (S80)) (r2 : Bool) (w : World) (hr0 : Kd.C k83 w A0 l0.length l0) (hc0 : l0.length ≤ c0) (hr1 : Kd.C k80 w A1 l1.length l1) (hc1 : l1.length ≤ c1) (h : impl_MoveItem.f k l0 l1 a2 a3 a4 = some (r1, r2)) :
  Calls Try.prog 22 #[.slice A0 l0.length c0, .slice A1 l1.length c1, .int .i64 a2, .int .i64 a3, .int .i64 a4] w fun e w' => ∃ v0_ : Value, e = .returned (.tuple #[v0_, .bool r2]) ∧ Kd.S k80 80 w' w.heap.size (fun _ => True) v0_ r1 ∧ Below w.heap.size w w' := by
 (have HR0 := Aside0.mk hr0); (have HC0 := Aside0.mk hc0); (have HR1 := Aside0.mk hr1); (have HC1 := Aside0.mk hc1); clear hr0 hc0 hr1 hc1; (have hb2 := box2 w (.cells #[.int .i64 a3] 3) (.cells #[.int .i64 a4] 3)); (have HX := Aside0.mk hb2); clear hb2; (unfold impl_MoveItem.f at h); (have H := h); clear h; (replace H := obS H; obtain ⟨t1, AV, H⟩ := H); (by_cases q1 : t1 = true)
 case neg =>
  (have q1' : t1 = false := by simpa using q1); (subst q1'); (rw [if_neg (by simp)] at H); (simp only [Option.some.injEq, Prod.mk.injEq] at H); (obtain ⟨rfl, rfl⟩ := H); (go_enter Try.func22, Try.ntmps22); (go_wp2_with ((with_reducible refine gate_callee (f := 61) rfl ?_); refine gL (some 19) Try.func61 #[.slice A0 l0.length c0, .slice A1 l1.length c1, .int .i64 a2] ?_; (with_reducible refine (impl_IsValidArchive.calls k _ _ l0 _ _ l1 a2 false _ ?s1 ?s2 ?s3 ?s4 AV.out).mono ?_); (case s1 => exact Q139); (case s2 => exact HC0.out); (case s3 => exact Q140); (case s4 => exact HC1.out); rintro e w2 ⟨rfl, hb⟩; refine ⟨_, rfl, ?_⟩)); (go_ret2); (exact ⟨_, rfl, Kd.S_nil _ _ _ _ _, below_step HX.out.2.2 hb⟩)
 subst q1; (rw [if_pos rfl] at H); (replace H := obS H; obtain ⟨q, AQ, H⟩ := H); (by_cases cq : q < 0); (· (have cqb := decide_eq_true cq); (rw [if_pos cq] at H); (simp only [Option.some.injEq, Prod.mk.injEq] at H); (obtain ⟨rfl, rfl⟩ := H); clear cq; (go_enter Try.func22, Try.ntmps22); (go_wp2_with (first | ((with_reducible refine gate_callee (f := 61) rfl ?_); refine gL (some 19) Try.func61 #[.slice A0 l0.length c0, .slice A1 l1.length c1, .int .i64 a2] ?_; (with_reducible refine (impl_IsValidArchive.calls k _ _ l0 _ _ l1 a2 true _ ?s1 ?s2 ?s3 ?s4 AV.out).mono ?_); (case s1 => exact Q139); (case s2 => exact HC0.out); (case s3 => exact Q140); (case s4 => exact HC1.out); rintro e w2 ⟨rfl, hb⟩; refine ⟨_, rfl, ?_⟩; have HB := Aside0.mk (below_step HX.out.2.2 hb); have HN := Aside0.mk (blk_below HX.out.1 hb); have HT := Aside0.mk (blk_below HX.out.2.1 hb); clear hb; have hN2 := cz HN.out 0; have hT2 := cz HT.out 0) | ((with_reducible refine gate_callee (f := 55) rfl ?_); refine gate_guard Q141 ?_; refine gL (some 24) Try.func55 #[.slice A0 l0.length c0, .int .i64 a3] ?_; (with_reducible refine (impl_itemOf.calls _ _ l0 a3 q _ ?t1 ?t2 AQ.out).mono ?_); (case t1 => exact Kd.C_below HR0.out HB.out); (case t2 => exact HC0.out); rintro e w3 ⟨rfl, hb⟩; refine ⟨_, rfl, ?_⟩; have n1_ := Aside0.mk (below_step HB.out hb); have n2_ := Aside0.mk (blk_below HN.out hb); have n3_ := Aside0.mk (blk_below HT.out hb); clear HB HN HT hb hN2 hT2; have HB := n1_; have HN := n2_; have HT := n3_; clear n1_ n2_ n3_; have hN3 := cz HN.out 0; have hT3 := cz HT.out 0))); (go_ret2); (exact ⟨_, rfl, Kd.S_nil _ _ _ _ _, HB.out⟩)); (rw [if_neg cq] at H); (have cqb := decide_eq_false cq); clear cq
 cases hA : l1.any (fun b => b.f0 == a4) with
 | false =>
  (rw [hA, if_neg (by simp)] at H); (have HA := Aside0.mk hA); (simp only [Option.some.injEq, Prod.mk.injEq] at H); (obtain ⟨rfl, rfl⟩ := H); clear hA; (go_enter Try.func22, Try.ntmps22); (go_wp2_with (first | ((with_reducible refine gate_callee (f := 61) rfl ?_); refine gL (some 19) Try.func61 #[.slice A0 l0.length c0, .slice A1 l1.length c1, .int .i64 a2] ?_; (with_reducible refine (impl_IsValidArchive.calls k _ _ l0 _ _ l1 a2 true _ ?s1 ?s2 ?s3 ?s4 AV.out).mono ?_); (case s1 => exact Q139); (case s2 => exact HC0.out); (case s3 => exact Q140); (case s4 => exact HC1.out); rintro e w2 ⟨rfl, hb⟩; refine ⟨_, rfl, ?_⟩; have HB := Aside0.mk (below_step HX.out.2.2 hb); have HN := Aside0.mk (blk_below HX.out.1 hb); have HT := Aside0.mk (blk_below HX.out.2.1 hb); clear hb; have hN2 := cz HN.out 0; have hT2 := cz HT.out 0) | ((with_reducible refine gate_callee (f := 55) rfl ?_); refine gate_guard Q141 ?_; refine gL (some 24) Try.func55 #[.slice A0 l0.length c0, .int .i64 a3] ?_; (with_reducible refine (impl_itemOf.calls _ _ l0 a3 q _ ?t1 ?t2 AQ.out).mono ?_); (case t1 => exact Kd.C_below HR0.out HB.out); (case t2 => exact HC0.out); rintro e w3 ⟨rfl, hb⟩; refine ⟨_, rfl, ?_⟩; have n1_ := Aside0.mk (below_step HB.out hb); have n2_ := Aside0.mk (blk_below HN.out hb); have n3_ := Aside0.mk (blk_below HT.out hb); clear HB HN HT hb hN2 hT2; have HB := n1_; have HN := n2_; have HT := n3_; clear n1_ n2_ n3_; have hN3 := cz HN.out 0; have hT3 := cz HT.out 0) | ((with_reducible refine gate_callee (f := 52) rfl ?_); refine gate_guard Q141 ?_; refine gL (some 30) Try.func52 #[.slice A1 l1.length c1, .func (.func 62) #[] #[.pointer (some ⟨w.heap.size + 1, 0, none⟩)]] ?_; refine (containsFunc52 A1 c1 l1 62 #[.pointer (some ⟨w.heap.size + 1, 0, none⟩)] (fun b => b.f0 == a4) _ ?u1 ?u2 ?u3).mono ?_; (case u1 => exact Kd.C_below HR1.out HB.out); (case u2 => exact enters_of Try.func62 (by kernel_rfl) rfl); (case u3 => exact Q142); rintro e w4 ⟨rfl, hb⟩; refine ⟨_, rfl, ?_⟩; have n1_ := Aside0.mk (below_step HB.out hb); have n2_ := Aside0.mk (blk_below HN.out hb); have n3_ := Aside0.mk (blk_below HT.out hb); clear HB HN HT hb hN3 hT3; have HB := n1_; have HN := n2_; have HT := n3_; clear n1_ n2_ n3_; have hN4 := cz HN.out 0; have hT4 := cz HT.out 0; first | rw [HA.out] | skip))); (go_ret2)
  exact ⟨_, rfl, Kd.S_nil _ _ _ _ _, HB.out⟩
 | true =>
  (rw [hA, if_pos rfl] at H); (have HA := Aside0.mk hA)
  have hpos : 0 < l1.length := by
   (rcases l1 with _ | ⟨x, l⟩); (· (simp at hA)); (· (exact Nat.succ_pos _))
  (have HPO := Aside0.mk hpos); clear hA hpos
  cases hS : mvSmall l1 with
  | false => rw [hS, if_neg (by simp)] at H; exact Q8
  | true =>
  rw [hS, if_pos rfl] at H
  have hs1 : l1.length < 4398046511104 := by
   (unfold mvSmall at hS); (rw [Bool.and_eq_true, decide_eq_true_eq] at hS); (exact hS.1)
  have hs2 : ∀ x ∈ l1, x.f1.length < 4398046511104 := by
   (unfold mvSmall at hS); (rw [Bool.and_eq_true, List.all_eq_true] at hS); intro x hx; (exact of_decide_eq_true (hS.2 x hx))
  (have HS1 := Aside0.mk hs1); (have HS2 := Aside0.mk hs2); clear hS hs1 hs2; (have hlen : (mvBoxes a3 a4 l1).length = l1.length := List.length_map ..); (have HLEN := Aside0.mk hlen); clear hlen; (have HH := Aside0.mk H); clear H; (go_enter Try.func22, Try.ntmps22); (go_wp2_with (first | ((with_reducible refine gate_callee (f := 61) rfl ?_); refine gL (some 19) Try.func61 #[.slice A0 l0.length c0, .slice A1 l1.length c1, .int .i64 a2] ?_; (with_reducible refine (impl_IsValidArchive.calls k _ _ l0 _ _ l1 a2 true _ ?s1 ?s2 ?s3 ?s4 AV.out).mono ?_); (case s1 => exact Q139); (case s2 => exact HC0.out); (case s3 => exact Q140); (case s4 => exact HC1.out); rintro e w2 ⟨rfl, hb⟩; refine ⟨_, rfl, ?_⟩; have HB := Aside0.mk (below_step HX.out.2.2 hb); have HN := Aside0.mk (blk_below HX.out.1 hb); have HT := Aside0.mk (blk_below HX.out.2.1 hb); clear hb; have hN2 := cz HN.out 0; have hT2 := cz HT.out 0) | ((with_reducible refine gate_callee (f := 55) rfl ?_); refine gate_guard Q141 ?_; refine gL (some 24) Try.func55 #[.slice A0 l0.length c0, .int .i64 a3] ?_; (with_reducible refine (impl_itemOf.calls _ _ l0 a3 q _ ?t1 ?t2 AQ.out).mono ?_); (case t1 => exact Kd.C_below HR0.out HB.out); (case t2 => exact HC0.out); rintro e w3 ⟨rfl, hb⟩; refine ⟨_, rfl, ?_⟩; have n1_ := Aside0.mk (below_step HB.out hb); have n2_ := Aside0.mk (blk_below HN.out hb); have n3_ := Aside0.mk (blk_below HT.out hb); clear HB HN HT hb hN2 hT2; have HB := n1_; have HN := n2_; have HT := n3_; clear n1_ n2_ n3_; have hN3 := cz HN.out 0; have hT3 := cz HT.out 0) | ((with_reducible refine gate_callee (f := 52) rfl ?_); refine gate_guard Q141 ?_; refine gL (some 30) Try.func52 #[.slice A1 l1.length c1, .func (.func 62) #[] #[.pointer (some ⟨w.heap.size + 1, 0, none⟩)]] ?_; refine (containsFunc52 A1 c1 l1 62 #[.pointer (some ⟨w.heap.size + 1, 0, none⟩)] (fun b => b.f0 == a4) _ ?u1 ?u2 ?u3).mono ?_; (case u1 => exact Kd.C_below HR1.out HB.out); (case u2 => exact enters_of Try.func62 (by kernel_rfl) rfl); (case u3 => exact Q142); rintro e w4 ⟨rfl, hb⟩; refine ⟨_, rfl, ?_⟩; have n1_ := Aside0.mk (below_step HB.out hb); have n2_ := Aside0.mk (blk_below HN.out hb); have n3_ := Aside0.mk (blk_below HT.out hb); clear HB HN HT hb hN3 hT3; have HB := n1_; have HN := n2_; have HT := n3_; clear n1_ n2_ n3_; have hN4 := cz HN.out 0; have hT4 := cz HT.out 0; first | rw [HA.out] | skip) | ((with_reducible refine gate_callee (f := 63) rfl ?_); refine gL (some 34) Try.func63 #[.slice A1 l1.length c1] ?_; refine (cloneB A1 c1 l1 _ ?k1 ?k2 ?k3).mono ?_; (case k1 => exact Kd.C_below HR1.out HB.out); (case k2 => exact HS1.out); (case k3 => exact HPO.out); rintro e w5 ⟨g, cap, rfl, hM⟩; refine ⟨_, rfl, ?_⟩; have FM := Aside0.mk hM; clear hM))); (go_loopg [37] l1.length (fun gg s37 wr => ∃ (i : Int) (P : List MBox), s37 = .int .i64 i ∧ Aside0 (0 ≤ i ∧ i ≤ (l1.length : Int)) ∧ Aside0 ((l1.length : Int) - i ≤ (gg : Int)) ∧ Aside0 (P = (mvBoxes a3 a4 l1).take i.toNat) ∧ Aside0 (MV w4 wr g l1.length cap i.toNat l1 P)))
  case atStart => exact ⟨0, [], rfl, ⟨by omega⟩, ⟨by omega⟩, ⟨by simp⟩, FM⟩
  case round =>
   (obtain ⟨i, P, rfl, Hi, Hg, HP, F⟩ := hrel); (have hBw : Below w.heap.size w wr := below_step HB.out F.out.hb); (have hNr := blk_below HN.out F.out.hb); (have hTr := blk_below HT.out F.out.hb); (by_cases c : i < (l1.length : Int))
   ·have cb := decide_eq_true c
    (have q0 : 0 ≤ i := Hi.out.1); (have hlt : i.toNat < l1.length := by omega); (obtain ⟨Ab, cbx, hx0, hx1, hfz, hle, hC⟩ := F.out.at_ hlt z80); (have hxm : l1.getD i.toNat z80 ∈ l1 := by rw [List.getD_eq_getElem?_getD, List.getElem?_eq_getElem hlt]; exact List.getElem_mem hlt); (have hsx := HS2.out _ hxm)
    have hPn : (mvBoxes a3 a4 l1).take (i.toNat + 1) = (mvBoxes a3 a4 l1).take i.toNat ++ [⟨(l1.getD i.toNat z80).f0, mvList a3 a4 (l1.getD i.toNat z80)⟩] := by
     (rw [List.take_succ_eq_append_getElem (by rw [HLEN.out]; exact hlt)]); (congr 2); (unfold mvBoxes); (rw [List.getElem_map, List.getD_eq_getElem?_getD, List.getElem?_eq_getElem hlt]); rfl
    (have hput := fun (W' : World) (h : Below wr.heap.size wr W') (v : Value) (L : List Int) (hv : Kd.R (Kd.int .i64) 3 W' wr.heap.size (fun _ => True) v L) => F.out.put hlt z80 h hv); (obtain ⟨x, hxe⟩ : ∃ x, x = l1.getD i.toNat z80 := ⟨_, rfl⟩); (rw [← hxe] at hx0 hx1 hle hC hsx hPn); (simp only [← hxe] at hput); clear hxm; (obtain ⟨Lf, hLf⟩ : ∃ y, y = x.f1.filter (fun n => !(n == a3)) := ⟨_, rfl⟩); (have hlf : Lf.length < 4398046511104 := by rw [hLf]; exact Nat.lt_of_le_of_lt (List.length_filter_le _ _) hsx); (obtain ⟨Ly, hLy⟩ : ∃ y, y = Lf ++ [a3] := ⟨_, rfl⟩); (have hly : Ly.length < 4611686018427387904 := by rw [hLy, List.length_append, List.length_singleton]; omega); (have HLY := Aside0.mk hLy); (have HSY := Aside0.mk hly); clear hLy hly; (have HPUT := Aside0.mk hput); (have HPN := Aside0.mk hPn); (have HLF := Aside0.mk hLf); (have HSF := Aside0.mk hlf); (have HSX := Aside0.mk hsx); (have HCX := Aside0.mk hC); (have HLE := Aside0.mk hle); (have HLT := Aside0.mk hlt); (have HNR := Aside0.mk hNr); (have HTR := Aside0.mk hTr); (have hN := cz hNr 0); (have hT := cz hTr 0); (have hwi : wrap64 (i + 1) = i + 1 := E.wrap_id (by omega) (by have := HS1.out; omega)); (have p101 := eq_true q0); (have q101 := eq_true c); clear hput hPn hLf hlf hsx hC hle hlt hNr hTr hBw hxe c q0; (by_cases cx : x.f0 = a4)
    ·have cxb : (x.f0 == a4) = true := beq_iff_eq.mpr cx
     (have HCXE := Aside0.mk cx); clear cx; (go_wp2_with (first | ((with_reducible refine gate_dst (N := 14) rfl ?_); refine box_event ?hg (N := 14) ?hd (cs := #[.int .i64 0, .slice none 0 0]) (t := 80) ?hr ?_; (case hd => rfl); (case hg => rfl); (case hr => first | (go_simp; done) | (go_simp; rfl)); intro gb hg w9 hbox hb; have HB9 := Aside0.mk hb; have BK9 := Aside0.mk hbox; have GE9 := Aside0.mk (show wr.heap.size ≤ gb by rw [hg]; exact Q143); clear hbox hb hg; have hz9_0 := cz BK9.out 0; have hz9_1 := cz BK9.out 1; have hfz9_0 := blk_frozen BK9.out 0; have hfz9_1 := blk_frozen BK9.out 1) | ((with_reducible refine gate_store (t := 80) (p := 14) rfl ?_); refine put_event rfl rfl 80 (.tmp 14) _ rfl _ [.int .i64 x.f0, .slice Ab x.f1.length cbx] rfl rfl rfl (by kernel_rfl) rfl BK9.out rfl ?_; intro w10 hp hk hbg; have BK10 := Aside0.mk hp; have HB10 := Aside0.mk (HB9.out.trans (hbg.mono GE9.out)); clear hp hk hbg; have HN10 := Aside0.mk (blk_below HNR.out HB10.out); have HT10 := Aside0.mk (blk_below HTR.out HB10.out); have hz10_0 := cz BK10.out 0; have hz10_1 := cz BK10.out 1; have hN10 := cz HN10.out 0; have hT10 := cz HT10.out 0) | ((with_reducible refine gate_callee (f := 65) rfl ?_); refine gL (some 44) Try.func65 #[.slice Ab x.f1.length cbx] ?_; refine (cloneI Ab cbx x.f1 _ ?j1 ?j2).mono ?_; (case j1 => exact Kd.C_below HCX.out HB10.out); (case j2 => exact HSX.out); rintro e w11 ⟨v11, rfl, ho, hb⟩; refine ⟨_, rfl, ?_⟩; have HO11 := Aside0.mk ho; have HBb11 := Aside0.mk hb; clear ho hb) | ((with_reducible refine gate_callee (f := 64) rfl ?_); refine gL (some 46) Try.func64 #[v11, .func (.func 66) #[] #[.pointer (some ⟨w.heap.size, 0, none⟩)]] ?_; refine (deleteFunc64 v11 x.f1 66 #[.pointer (some ⟨w.heap.size, 0, none⟩)] (fun n => n == a3) _ w10 w10.heap.size ?d1 ?d2 ?d3 ?d4 ?d5 ?d6).mono ?_; (case d1 => exact HBb11.out.size); (case d2 => exact HSX.out); (case d3 => exact HO11.out); (case d4 => exact HBb11.out); (case d5 => exact enters_of Try.func66 (by kernel_rfl) rfl); (case d6 => exact Q144); rintro e w12 ⟨v12, rfl, ho, hb⟩; refine ⟨_, rfl, ?_⟩; rw [← HLF.out] at ho; obtain ⟨Av, cv, rfl⟩ := Kd.R_slice ho; have HO12 := Aside0.mk ho; have HBb12 := Aside0.mk hb; have HBr12 := Aside0.mk (HB10.out.trans (hb.mono HB10.out.size)); have hz12_0 := cz (blk_below BK10.out hb) 0; have hN12 := cz (blk_below HN10.out hb) 0; have hT12 := cz (blk_below HT10.out hb) 0; obtain ⟨_, _, _, hy12, hyf12, _⟩ := (F.out.below HBr12.out).at_ HLT.out z80; clear ho hb) | ((with_reducible refine gate_builtin (b := .append) (xs := #[.tmp 51, .tmp 53]) rfl ?_); at_builtin; refine Kd.R_append (Kd.int .i64) (w0 := w10) w10.heap.size rfl (.tmp 51) (.tmp 53) 26 3 (.int .i64 0) 8 rfl Try.underlying26 info3 rfl (by decide) (by omega) (.slice Av Lf.length cv) Lf a3 [.int .i64 a3] (fun _ => True) (fun _ => False) rfl rfl ?aP (fun _ hk => hk.elim) ?aF ?aO ?aB ?aS ?aL ?_; (case aP => exact rfl); (case aB => exact HBb12.out); (case aF => exact fun _ _ => trivial); (case aO => exact HO12.out); (case aS => exact HBb12.out.size); (case aL => have := HSF.out; omega); intro v13 w13 ho hb hg hat; rw [← HLY.out] at ho; obtain ⟨Aw, cw, rfl⟩ := Kd.R_slice ho; have HO13 := Aside0.mk ho; have HBb13 := Aside0.mk hb; clear ho hb hg hat) | ((with_reducible refine gate_callee (f := 56) rfl ?_); refine gL (some 56) Try.func56 #[.slice Aw Ly.length cw] ?_; refine (slices_Sort_int_int.calls (fun _ => True) (.slice Aw Ly.length cw) Ly (Ly.mergeSort fun x y => decide (x ≤ y)) w10 _ ?z1 ?z2 ?z3).mono ?_; (case z1 => exact HBb13.out); (case z2 => exact HO13.out); (case z3 => exact if_pos HSY.out); rintro e w14 ⟨rfl, ho, hb, hkp⟩; refine ⟨_, rfl, ?_⟩; have HO14 := Aside0.mk ho; have HBr14 := Aside0.mk (HB10.out.trans (hb.mono HB10.out.size)); obtain ⟨_, _, _, hy14, hyf14, _⟩ := (F.out.below HBr14.out).at_ HLT.out z80; clear ho hb hkp))); (have hv := Kd.R_lower (Kd.R_mono (ok' := fun _ => True) HO14.out (fun _ _ => trivial)) HB10.out.size); (have HM := Aside0.mk (HPUT.out _ HBr14.out _ _ hv)); clear hv; (go_roundg ((l1.length : Int) - (i + 1)).toNat)
     case measure => have := Hg.out; have := HLT.out; omega
     case rel =>
      (have e1 : (i + 1).toNat = i.toNat + 1 := by have := Hi.out; omega); (refine ⟨i + 1, _, by simp [*], ⟨Q145⟩, ⟨Q145⟩, ⟨?_⟩, ⟨by rw [e1]; exact HM.out⟩⟩); (rw [e1, HPN.out, HP.out]); (congr 2); (unfold mvList); (rw [if_pos HCXE.out, HLY.out, HLF.out])
    ·have cxb : (x.f0 == a4) = false := beq_eq_false_iff_ne.mpr cx
     (have HCXE := Aside0.mk cx); clear cx; (go_wp2_with (first | ((with_reducible refine gate_dst (N := 14) rfl ?_); refine box_event ?hg (N := 14) ?hd (cs := #[.int .i64 0, .slice none 0 0]) (t := 80) ?hr ?_; (case hd => rfl); (case hg => rfl); (case hr => first | (go_simp; done) | (go_simp; rfl)); intro gb hg w9 hbox hb; have HB9 := Aside0.mk hb; have BK9 := Aside0.mk hbox; have GE9 := Aside0.mk (show wr.heap.size ≤ gb by rw [hg]; exact Q143); clear hbox hb hg; have hz9_0 := cz BK9.out 0; have hz9_1 := cz BK9.out 1; have hfz9_0 := blk_frozen BK9.out 0; have hfz9_1 := blk_frozen BK9.out 1) | ((with_reducible refine gate_store (t := 80) (p := 14) rfl ?_); refine put_event rfl rfl 80 (.tmp 14) _ rfl _ [.int .i64 x.f0, .slice Ab x.f1.length cbx] rfl rfl rfl (by kernel_rfl) rfl BK9.out rfl ?_; intro w10 hp hk hbg; have BK10 := Aside0.mk hp; have HB10 := Aside0.mk (HB9.out.trans (hbg.mono GE9.out)); clear hp hk hbg; have HN10 := Aside0.mk (blk_below HNR.out HB10.out); have HT10 := Aside0.mk (blk_below HTR.out HB10.out); have hz10_0 := cz BK10.out 0; have hz10_1 := cz BK10.out 1; have hN10 := cz HN10.out 0; have hT10 := cz HT10.out 0) | ((with_reducible refine gate_callee (f := 65) rfl ?_); refine gL (some 44) Try.func65 #[.slice Ab x.f1.length cbx] ?_; refine (cloneI Ab cbx x.f1 _ ?j1 ?j2).mono ?_; (case j1 => exact Kd.C_below HCX.out HB10.out); (case j2 => exact HSX.out); rintro e w11 ⟨v11, rfl, ho, hb⟩; refine ⟨_, rfl, ?_⟩; have HO11 := Aside0.mk ho; have HBb11 := Aside0.mk hb; clear ho hb) | ((with_reducible refine gate_callee (f := 64) rfl ?_); refine gL (some 46) Try.func64 #[v11, .func (.func 66) #[] #[.pointer (some ⟨w.heap.size, 0, none⟩)]] ?_; refine (deleteFunc64 v11 x.f1 66 #[.pointer (some ⟨w.heap.size, 0, none⟩)] (fun n => n == a3) _ w10 w10.heap.size ?d1 ?d2 ?d3 ?d4 ?d5 ?d6).mono ?_; (case d1 => exact HBb11.out.size); (case d2 => exact HSX.out); (case d3 => exact HO11.out); (case d4 => exact HBb11.out); (case d5 => exact enters_of Try.func66 (by kernel_rfl) rfl); (case d6 => exact Q144); rintro e w12 ⟨v12, rfl, ho, hb⟩; refine ⟨_, rfl, ?_⟩; rw [← HLF.out] at ho; obtain ⟨Av, cv, rfl⟩ := Kd.R_slice ho; have HO12 := Aside0.mk ho; have HBb12 := Aside0.mk hb; have HBr12 := Aside0.mk (HB10.out.trans (hb.mono HB10.out.size)); have hz12_0 := cz (blk_below BK10.out hb) 0; have hN12 := cz (blk_below HN10.out hb) 0; have hT12 := cz (blk_below HT10.out hb) 0; obtain ⟨_, _, _, hy12, hyf12, _⟩ := (F.out.below HBr12.out).at_ HLT.out z80; clear ho hb))); (have hv := Kd.R_lower (Kd.R_mono (ok' := fun _ => True) HO12.out (fun _ _ => trivial)) HB10.out.size); (have HM := Aside0.mk (HPUT.out _ HBr12.out _ _ hv)); clear hv; (go_roundg ((l1.length : Int) - (i + 1)).toNat)
     case measure => have := Hg.out; have := HLT.out; omega
     case rel =>
      (have e1 : (i + 1).toNat = i.toNat + 1 := by have := Hi.out; omega); (refine ⟨i + 1, _, by simp [*], ⟨Q145⟩, ⟨Q145⟩, ⟨?_⟩, ⟨by rw [e1]; exact HM.out⟩⟩); (rw [e1, HPN.out, HP.out]); (congr 2); (unfold mvList); (rw [if_neg HCXE.out, HLF.out])
   ·have cb := decide_eq_false c
    (have he : i.toNat = l1.length := by have := Hi.out; omega); (have hPa : P = mvBoxes a3 a4 l1 := by rw [HP.out, he, ← HLEN.out, List.take_length]); (have hD := F.out.done he); (rw [hPa] at hD); (have HD := Aside0.mk (Kd.S_lower hD HB.out.size)); (have hr := Kd.R_reads' (Kd.S_R hD)); (have H := HH.out); clear HH; (replace H := obS H; obtain ⟨t2, AW, H⟩ := H); (have hc := impl_IsValidArchive.calls k A0 c0 l0 (some ⟨g, 0, none⟩) cap (mvBoxes a3 a4 l1) a2 t2 wr (Kd.C_below HR0.out hBw) HC0.out hr.2.2 (by rw [← hr.1]; exact hr.2.1) AW.out); (rw [HLEN.out] at hc); (have HCALL := Aside0.mk hc); (have HBW := Aside0.mk hBw); clear hc hr hD hPa hBw hNr hTr c
    cases t2 with
    | false =>
     (rw [if_neg (by simp)] at H); (simp only [Option.some.injEq, Prod.mk.injEq] at H); (obtain ⟨rfl, rfl⟩ := H); (go_wp2_with ((with_reducible refine gate_callee (f := 61) rfl ?_); refine gL (some 66) Try.func61 #[.slice A0 l0.length c0, .slice (some ⟨g, 0, none⟩) l1.length cap, .int .i64 a2] ?_; refine HCALL.out.mono ?_; rintro e w20 ⟨rfl, hb⟩; refine ⟨_, rfl, ?_⟩)); (go_ret2)
     exact ⟨_, rfl, Kd.S_nil _ _ _ _ _, below_step HBW.out hb⟩
    | true =>
     (rw [if_pos rfl] at H); (simp only [Option.some.injEq, Prod.mk.injEq] at H); (obtain ⟨rfl, rfl⟩ := H); (go_wp2_with ((with_reducible refine gate_callee (f := 61) rfl ?_); refine gL (some 66) Try.func61 #[.slice A0 l0.length c0, .slice (some ⟨g, 0, none⟩) l1.length cap, .int .i64 a2] ?_; refine HCALL.out.mono ?_; rintro e w20 ⟨rfl, hb⟩; refine ⟨_, rfl, ?_⟩)); (go_ret2); (exact ⟨_, rfl, Kd.S_below HD.out hb, below_step HBW.out hb⟩)
end Go.Proofs.Ytdbhelhoaciodaa.X
namespace Go.Proofs.Ytdbhelhoaciodaa.X
open Go.RowKit Go.Proofs.YtdbhelhoaciodaaW.PrintWords Go.Proofs.YtdbhelhoaciodaaW.PrintLast Go.Proofs.YtdbhelhoaciodaaW.PrintMore
attribute [local go_sem] max2_int min2_int max_two min_two max_three min_three max_four min_four
set_option linter.unusedVariables false
set_option linter.unusedSimpArgs false
attribute [-simp] ByteArray.size_append ByteArray.size_extract
attribute [-go_sem] ByteArray.size_append'
/-! ### laws_heldIntS: function 20 -/
def laws_heldIntS.l0 : Nat → List Int → Int → Int → Option (Int)
 | 0, _, _, _ => none
 | k + 1, x0, x1, x5 => if x5 < (x0.length : Int) then (if 0 ≤ x5 then (if (rd x0 x5) = x1 then (laws_heldIntS.l0 k x0 (wrap64 (x1 + 1)) (wrap64 (x5 + 1))) else (some (-1))) else (none)) else (some x1)
def laws_heldIntS.f (k : Nat) (l0 : List Int) (a1 : Int) : Option (Int) := laws_heldIntS.l0 k l0 a1 0
set_option maxHeartbeats 8000000 in
set_option maxRecDepth 100000 in
theorem laws_heldIntS.calls (k : Nat) (A0 : Option Addr) (c0 : Nat) (l0 : List Int) (a1 : Int) (r : Int) (w : World) (hr0 : Kd.C (Kd.int .i64) w A0 l0.length l0) (hc0 : l0.length ≤ c0) (h : laws_heldIntS.f k l0 a1 = some r) :
  Calls Try.prog 20 #[.slice A0 l0.length c0, .int .i64 a1] w fun e w' => e = .returned (.int .i64 r) ∧ Drawn0 w w' := by
 (have HR0 := Aside0.mk hr0); (have HC0 := Aside0.mk hc0); clear hr0 hc0; (unfold laws_heldIntS.f at h); (have H := h); clear h; (have H' := Aside0.mk H); clear H; (go_enter Try.func20, Try.ntmps20); (go_wp2); (go_loopg [1, 5] k (fun kq v1 v5 w' => ∃ (x1_1 : Int) (x5_1 : Int), v1 = .int .i64 x1_1 ∧ v5 = .int .i64 x5_1 ∧ Aside0 (laws_heldIntS.l0 kq l0 x1_1 x5_1 = some r) ∧ Aside0 (kq ≤ k) ∧ Drawn0 w w'))
 case atStart => exact Q146
 case round =>
  (clear H'); (try clear c2); (try clear p2); (obtain ⟨x1_1, x5_1, rfl, rfl, HA, HK1, ⟨m1, rfl⟩⟩ := hrel)
  cases gk with
  | zero => exact absurd HA.out (by simp [laws_heldIntS.l0])
  | succ k1 =>
   (have H := HA.out); clear HA; (simp only [laws_heldIntS.l0] at H); (by_cases c3 : x5_1 < (l0.length : Int))
   ·rw [if_pos c3] at H
    (have c3b0 := decide_eq_true c3); clear c3; (by_cases c4 : 0 ≤ x5_1)
    ·rw [if_pos c4] at H
     (have c4b0 := decide_eq_true c4); clear c4; (by_cases c5 : (rd l0 x5_1) = x1_1)
     ·rw [if_pos c5] at H
      (have c5b0 : ((rd l0 x5_1) == x1_1) = true := beq_iff_eq.mpr c5); (have c5b1 : ((rd l0 x5_1) != x1_1) = false := bne_eq_false_iff_eq.mpr c5); clear c5; (have H' := Aside0.mk H); clear H; (have p101 : 0 ≤ (x5_1 : Int) := odt); (have q101 : x5_1 < (l0.length : Int) := odt); (obtain ⟨ad101, e101, hx101_0⟩ := Kd.at_int HR0.out x5_1 p101 q101); (cases e101); (replace p101 := eq_true p101); (replace q101 := eq_true q101); (go_wp2); go_roundg k1
      case measure => have := HK1.out; omega
      case rel => exact ⟨(wrap64 (x1_1 + 1)), (wrap64 (x5_1 + 1)), Q6, Q6, H', ⟨Q7⟩, Q81⟩
     ·rw [if_neg c5] at H
      (have c5b0 : ((rd l0 x5_1) == x1_1) = false := beq_eq_false_iff_ne.mpr c5); (have c5b1 : ((rd l0 x5_1) != x1_1) = true := bne_iff_ne.mpr c5); (obtain rfl := Option.some.inj H); (have p101 : 0 ≤ (x5_1 : Int) := odt); (have q101 : x5_1 < (l0.length : Int) := odt); (obtain ⟨ad101, e101, hx101_0⟩ := Kd.at_int HR0.out x5_1 p101 q101); (cases e101); (replace p101 := eq_true p101); (replace q101 := eq_true q101); (go_wp2); go_ret; (exact Q25)
    ·rw [if_neg c4] at H
     exact Q8
   ·rw [if_neg c3] at H
    (have c3b0 := decide_eq_false c3); clear c3; (obtain rfl := Option.some.inj H); (go_wp2); go_ret; (exact Q25)
/-! ### laws_heldArchiveBoxS: function 23 -/
def laws_heldArchiveBoxS.l0 : Nat → List (S80) → Int → Int → Option (Int)
 | 0, _, _, _ => none
 | k + 1, x0, x1, x5 => if x5 < (x0.length : Int) then (if 0 ≤ x5 then (if ((rd_T80 x0 x5).f0) = x1 then ((laws_heldIntS.f k ((rd_T80 x0 x5).f1) (wrap64 (x1 + 1))).bind fun t103 => (if t103 < 0 then (some (-1)) else (laws_heldArchiveBoxS.l0 k x0 t103 (wrap64 (x5 + 1))))) else (some (-1))) else (none)) else (some x1)
def laws_heldArchiveBoxS.f (k : Nat) (l0 : List (S80)) (a1 : Int) : Option (Int) := laws_heldArchiveBoxS.l0 k l0 a1 0
set_option maxHeartbeats 8000000 in
set_option maxRecDepth 100000 in
theorem laws_heldArchiveBoxS.calls (k : Nat) (A0 : Option Addr) (c0 : Nat) (l0 : List (S80)) (a1 : Int) (r : Int) (w : World) (hr0 : Kd.C k80 w A0 l0.length l0) (hc0 : l0.length ≤ c0) (h : laws_heldArchiveBoxS.f k l0 a1 = some r) :
  Calls Try.prog 23 #[.slice A0 l0.length c0, .int .i64 a1] w fun e w' => e = .returned (.int .i64 r) ∧ Drawn0 w w' := by
 (have HR0 := Aside0.mk hr0); (have HC0 := Aside0.mk hc0); clear hr0 hc0; (unfold laws_heldArchiveBoxS.f at h); (have H := h); clear h; (have H' := Aside0.mk H); clear H; (go_enter Try.func23, Try.ntmps23); (go_wp2); (go_loopg [1, 5] k (fun kq v1 v5 w' => ∃ (x1_1 : Int) (x5_1 : Int), v1 = .int .i64 x1_1 ∧ v5 = .int .i64 x5_1 ∧ Aside0 (laws_heldArchiveBoxS.l0 kq l0 x1_1 x5_1 = some r) ∧ Aside0 (kq ≤ k) ∧ Drawn0 w w'))
 case atStart => exact Q146
 case round =>
  (clear H'); (try clear c2); (try clear p2); (obtain ⟨x1_1, x5_1, rfl, rfl, HA, HK1, ⟨m1, rfl⟩⟩ := hrel)
  cases gk with
  | zero => exact absurd HA.out (by simp [laws_heldArchiveBoxS.l0])
  | succ k1 =>
   (have H := HA.out); clear HA; (simp only [laws_heldArchiveBoxS.l0] at H); (by_cases c3 : x5_1 < (l0.length : Int))
   ·rw [if_pos c3] at H
    (have c3b0 := decide_eq_true c3); clear c3; (by_cases c4 : 0 ≤ x5_1)
    ·rw [if_pos c4] at H
     (have c4b0 := decide_eq_true c4); clear c4; (by_cases c5 : ((rd_T80 l0 x5_1).f0) = x1_1)
     ·rw [if_pos c5] at H
      (have c5b0 : (((rd_T80 l0 x5_1).f0) == x1_1) = true := beq_iff_eq.mpr c5); (have c5b1 : (((rd_T80 l0 x5_1).f0) != x1_1) = false := bne_eq_false_iff_eq.mpr c5); clear c5; (replace H := obS H); (obtain ⟨t103, A6, H⟩ := H); (by_cases c7 : t103 < 0)
      ·rw [if_pos c7] at H
       (have c7b0 := decide_eq_true c7); clear c7; (obtain rfl := Option.some.inj H); (have p101 : 0 ≤ (x5_1 : Int) := odt); (have q101 : x5_1 < (l0.length : Int) := odt); (obtain ⟨ad101, A101_1, c101_1, e101, hx101_0, hx101_1, hl101_1, hi101_1⟩ := at_T80 HR0.out x5_1 p101 q101); (cases e101); (have HR101_1 := Aside0.mk hi101_1); (have HC101_1 := Aside0.mk hl101_1); clear hi101_1 hl101_1; (replace p101 := eq_true p101); (replace q101 := eq_true q101); (have p102 : 0 ≤ (x5_1 : Int) := odt); (have q102 : x5_1 < (l0.length : Int) := odt); (obtain ⟨ad102, A102_1, c102_1, e102, hx102_0, hx102_1, hl102_1, hi102_1⟩ := at_T80 HR0.out x5_1 p102 q102); (obtain rfl : ad101 = ad102 := Q37); (have HR102_1 := Aside0.mk hi102_1); (have HC102_1 := Aside0.mk hl102_1); clear hi102_1 hl102_1; (replace p102 := eq_true p102); (replace q102 := eq_true q102); (have ea_ := Option.some.inj (hx101_1.symm.trans hx102_1)); (injection ea_ with ea_ en_ ec_); subst ea_; subst ec_; clear en_; (go_wp2_with (first | ((with_reducible refine gate_callee (f := 20) rfl ?_); refine gL (some 27) Try.func20 #[.slice A101_1 ((rd_T80 l0 x5_1).f1).length c101_1, .int .i64 (wrap64 (x1_1 + 1))] ?_; (with_reducible refine (laws_heldIntS.calls k1 _ _ ((rd_T80 l0 x5_1).f1) (wrap64 (x1_1 + 1)) t103 _ ?side1 ?side2 A6.out).mono ?_); (case side1 => exact cI HR102_1.out); (case side2 => exact HC102_1.out); rintro e w' ⟨rfl, ⟨nd, rfl⟩⟩; refine ⟨_, rfl, ?_⟩))); go_ret; (exact Q25)
      ·rw [if_neg c7] at H
       (have c7b0 := decide_eq_false c7); clear c7; (have H' := Aside0.mk H); clear H; (have p101 : 0 ≤ (x5_1 : Int) := odt); (have q101 : x5_1 < (l0.length : Int) := odt); (obtain ⟨ad101, A101_1, c101_1, e101, hx101_0, hx101_1, hl101_1, hi101_1⟩ := at_T80 HR0.out x5_1 p101 q101); (cases e101); (have HR101_1 := Aside0.mk hi101_1); (have HC101_1 := Aside0.mk hl101_1); clear hi101_1 hl101_1; (replace p101 := eq_true p101); (replace q101 := eq_true q101); (have p102 : 0 ≤ (x5_1 : Int) := odt); (have q102 : x5_1 < (l0.length : Int) := odt); (obtain ⟨ad102, A102_1, c102_1, e102, hx102_0, hx102_1, hl102_1, hi102_1⟩ := at_T80 HR0.out x5_1 p102 q102); (obtain rfl : ad101 = ad102 := Q37); (have HR102_1 := Aside0.mk hi102_1); (have HC102_1 := Aside0.mk hl102_1); clear hi102_1 hl102_1; (replace p102 := eq_true p102); (replace q102 := eq_true q102); (have ea_ := Option.some.inj (hx101_1.symm.trans hx102_1)); (injection ea_ with ea_ en_ ec_); subst ea_; subst ec_; clear en_; (go_wp2_with (first | ((with_reducible refine gate_callee (f := 20) rfl ?_); refine gL (some 27) Try.func20 #[.slice A101_1 ((rd_T80 l0 x5_1).f1).length c101_1, .int .i64 (wrap64 (x1_1 + 1))] ?_; (with_reducible refine (laws_heldIntS.calls k1 _ _ ((rd_T80 l0 x5_1).f1) (wrap64 (x1_1 + 1)) t103 _ ?side1 ?side2 A6.out).mono ?_); (case side1 => exact cI HR102_1.out); (case side2 => exact HC102_1.out); rintro e w' ⟨rfl, ⟨nd, rfl⟩⟩; refine ⟨_, rfl, ?_⟩))); go_roundg k1
       case measure => have := HK1.out; omega
       case rel => exact ⟨(t103), (wrap64 (x5_1 + 1)), Q6, Q6, H', ⟨Q7⟩, Q81⟩
     ·rw [if_neg c5] at H
      (have c5b0 : (((rd_T80 l0 x5_1).f0) == x1_1) = false := beq_eq_false_iff_ne.mpr c5); (have c5b1 : (((rd_T80 l0 x5_1).f0) != x1_1) = true := bne_iff_ne.mpr c5); (obtain rfl := Option.some.inj H); (have p101 : 0 ≤ (x5_1 : Int) := odt); (have q101 : x5_1 < (l0.length : Int) := odt); (obtain ⟨ad101, A101_1, c101_1, e101, hx101_0, hx101_1, hl101_1, hi101_1⟩ := at_T80 HR0.out x5_1 p101 q101); (cases e101); (have HR101_1 := Aside0.mk hi101_1); (have HC101_1 := Aside0.mk hl101_1); clear hi101_1 hl101_1; (replace p101 := eq_true p101); (replace q101 := eq_true q101); (go_wp2); go_ret; (exact Q25)
    ·rw [if_neg c4] at H
     exact Q8
   ·rw [if_neg c3] at H
    (have c3b0 := decide_eq_false c3); clear c3; (obtain rfl := Option.some.inj H); (go_wp2); go_ret; (exact Q25)
/-! ### laws_szItemS: function 8 -/
def laws_szItemS.f (l0 : List (S85)) (a1 : Int) : Option (Int) := if (wrap64 (a1 - (l0.length : Int))) < 0 then (some (-1)) else (some (wrap64 (a1 - (l0.length : Int))))
set_option maxHeartbeats 8000000 in
set_option maxRecDepth 100000 in
theorem laws_szItemS.calls (A0 : Option Addr) (c0 : Nat) (l0 : List (S85)) (a1 : Int) (r : Int) (w : World) (hr0 : Kd.C k85 w A0 l0.length l0) (hc0 : l0.length ≤ c0) (h : laws_szItemS.f l0 a1 = some r) :
  Calls Try.prog 8 #[.slice A0 l0.length c0, .int .i64 a1] w fun e w' => e = .returned (.int .i64 r) ∧ Drawn0 w w' := by
 (have HR0 := Aside0.mk hr0); (have HC0 := Aside0.mk hc0); clear hr0 hc0; (unfold laws_szItemS.f at h); (have H := h); clear h; (by_cases c3 : (wrap64 (a1 - (l0.length : Int))) < 0); (· (rw [if_pos c3] at H); (have c3b0 := decide_eq_true c3); clear c3; (obtain rfl := Option.some.inj H); (go_enter Try.func8, Try.ntmps8); (go_wp2); go_ret; (exact Q25)); (· (rw [if_neg c3] at H); (have c3b0 := decide_eq_false c3); clear c3; (obtain rfl := Option.some.inj H); (go_enter Try.func8, Try.ntmps8); (go_wp2); go_ret; (exact Q25))
/-! ### laws_szIntS: function 81 -/
def laws_szIntS.f (l0 : List Int) (a1 : Int) : Option (Int) := if (wrap64 (a1 - (l0.length : Int))) < 0 then (some (-1)) else (some (wrap64 (a1 - (l0.length : Int))))
set_option maxHeartbeats 8000000 in
set_option maxRecDepth 100000 in
theorem laws_szIntS.calls (A0 : Option Addr) (c0 : Nat) (l0 : List Int) (a1 : Int) (r : Int) (w : World) (hr0 : Kd.C (Kd.int .i64) w A0 l0.length l0) (hc0 : l0.length ≤ c0) (h : laws_szIntS.f l0 a1 = some r) :
  Calls Try.prog 81 #[.slice A0 l0.length c0, .int .i64 a1] w fun e w' => e = .returned (.int .i64 r) ∧ Drawn0 w w' := by
 (have HR0 := Aside0.mk hr0); (have HC0 := Aside0.mk hc0); clear hr0 hc0; (unfold laws_szIntS.f at h); (have H := h); clear h; (by_cases c3 : (wrap64 (a1 - (l0.length : Int))) < 0); (· (rw [if_pos c3] at H); (have c3b0 := decide_eq_true c3); clear c3; (obtain rfl := Option.some.inj H); (go_enter Try.func81, Try.ntmps81); (go_wp2); go_ret; (exact Q25)); (· (rw [if_neg c3] at H); (have c3b0 := decide_eq_false c3); clear c3; (obtain rfl := Option.some.inj H); (go_enter Try.func81, Try.ntmps81); (go_wp2); go_ret; (exact Q25))
/-! ### laws_szArchiveBox: function 44 -/
def laws_szArchiveBox.f (a0_0 : Int) (l0_1 : List Int) (a1 : Int) : Option (Int) := (laws_szIntS.f l0_1 a1).bind fun t102 => (if t102 < 0 then (some (-1)) else (some t102))
set_option maxHeartbeats 8000000 in
set_option maxRecDepth 100000 in
theorem laws_szArchiveBox.calls (a0_0 : Int) (A0_1 : Option Addr) (c0_1 : Nat) (l0_1 : List Int) (a1 : Int) (r : Int) (w : World) (hr0_1 : Kd.C (Kd.int .i64) w A0_1 l0_1.length l0_1) (hc0_1 : l0_1.length ≤ c0_1) (h : laws_szArchiveBox.f a0_0 l0_1 a1 = some r) :
  Calls Try.prog 44 #[.agg #[.int .i64 a0_0, .slice A0_1 l0_1.length c0_1], .int .i64 a1] w fun e w' => e = .returned (.int .i64 r) ∧ Below w.heap.size w w' := by
 (have hu78 := Try.underlying78); (have HR0_1 := Aside0.mk hr0_1); (have HC0_1 := Aside0.mk hc0_1); clear hr0_1 hc0_1; (have HB := Aside0.mk (Below.refl w.heap.size w)); (unfold laws_szArchiveBox.f at h); (have H := h); clear h; (replace H := obS H); (obtain ⟨t102, A3, H⟩ := H); (by_cases c4 : t102 < 0); (· (rw [if_pos c4] at H); (have c4b0 := decide_eq_true c4); clear c4; (obtain rfl := Option.some.inj H); (go_enter Try.func44, Try.ntmps44); (go_wp2_with (first | ((with_reducible refine gate_dst (N := 2) rfl ?_); refine box_event ?hg (N := 2) ?hd (cs := #[.int .i64 a0_0, .slice A0_1 l0_1.length c0_1]) (t := 78) ?hr ?_; (case hd => rfl); (case hg => rfl); (case hr => first | (go_simp; done) | (go_simp; rfl)); intro gb101 hg w5 hbox hb; have hB_ := zI hb HB; have n0_ := Aside0.mk (below_step hB_ hb); have n1_ := Aside0.mk (hbox); have n2_ := Aside0.mk (bx0 hg hB_); have n3_ := n2_; clear HB; have HB := n0_; have BK101 := n1_; have GW101 := n2_; have GE101 := n3_; clear n0_ n1_ n2_ n3_ hB_ hb hbox hg; have hcz6_0 := cz BK101.out 0; have hcz6_1 := cz BK101.out 1; have hfz6_0 := blk_frozen BK101.out 0; have hfz6_1 := blk_frozen BK101.out 1) | ((with_reducible refine gate_callee (f := 81) rfl ?_); refine gL (some 8) Try.func81 #[.slice A0_1 l0_1.length c0_1, .int .i64 a1] ?_; (with_reducible refine (laws_szIntS.calls _ _ l0_1 a1 t102 _ ?side1 ?side2 A3.out).mono ?_); (case side1 => exact Q26); (case side2 => exact HC0_1.out); rintro e w' ⟨rfl, ⟨nd, rfl⟩⟩; refine ⟨_, rfl, ?_⟩))); go_ret; (exact Q18)); (· (rw [if_neg c4] at H); (have c4b0 := decide_eq_false c4); clear c4; (obtain rfl := Option.some.inj H); (go_enter Try.func44, Try.ntmps44); (go_wp2_with (first | ((with_reducible refine gate_dst (N := 2) rfl ?_); refine box_event ?hg (N := 2) ?hd (cs := #[.int .i64 a0_0, .slice A0_1 l0_1.length c0_1]) (t := 78) ?hr ?_; (case hd => rfl); (case hg => rfl); (case hr => first | (go_simp; done) | (go_simp; rfl)); intro gb101 hg w7 hbox hb; have hB_ := zI hb HB; have n0_ := Aside0.mk (below_step hB_ hb); have n1_ := Aside0.mk (hbox); have n2_ := Aside0.mk (bx0 hg hB_); have n3_ := n2_; clear HB; have HB := n0_; have BK101 := n1_; have GW101 := n2_; have GE101 := n3_; clear n0_ n1_ n2_ n3_ hB_ hb hbox hg; have hcz8_0 := cz BK101.out 0; have hcz8_1 := cz BK101.out 1; have hfz8_0 := blk_frozen BK101.out 0; have hfz8_1 := blk_frozen BK101.out 1) | ((with_reducible refine gate_callee (f := 81) rfl ?_); refine gL (some 8) Try.func81 #[.slice A0_1 l0_1.length c0_1, .int .i64 a1] ?_; (with_reducible refine (laws_szIntS.calls _ _ l0_1 a1 t102 _ ?side1 ?side2 A3.out).mono ?_); (case side1 => exact Q26); (case side2 => exact HC0_1.out); rintro e w' ⟨rfl, ⟨nd, rfl⟩⟩; refine ⟨_, rfl, ?_⟩))); go_ret; (exact Q18))
/-! ### laws_szArchiveBoxS: function 9 -/
def laws_szArchiveBoxS.l0 : Nat → List (S78) → Int → Int → Option (Int)
 | 0, _, _, _ => none
 | k + 1, x0, x1, x5 => if x5 < (x0.length : Int) then (if 0 ≤ x5 then ((laws_szArchiveBox.f ((rd_T78 x0 x5).f0) ((rd_T78 x0 x5).f1) x1).bind fun t102 => (if t102 < 0 then (some (-1)) else (laws_szArchiveBoxS.l0 k x0 t102 (wrap64 (x5 + 1))))) else (none)) else (some x1)
def laws_szArchiveBoxS.f (k : Nat) (l0 : List (S78)) (a1 : Int) : Option (Int) := if (wrap64 (a1 - (l0.length : Int))) < 0 then (some (-1)) else (laws_szArchiveBoxS.l0 k l0 (wrap64 (a1 - (l0.length : Int))) 0)
set_option maxHeartbeats 8000000 in
set_option maxRecDepth 100000 in
theorem laws_szArchiveBoxS.calls (k : Nat) (A0 : Option Addr) (c0 : Nat) (l0 : List (S78)) (a1 : Int) (r : Int) (w : World) (hr0 : Kd.C k78 w A0 l0.length l0) (hc0 : l0.length ≤ c0) (h : laws_szArchiveBoxS.f k l0 a1 = some r) :
  Calls Try.prog 9 #[.slice A0 l0.length c0, .int .i64 a1] w fun e w' => e = .returned (.int .i64 r) ∧ Below w.heap.size w w' := by
 (have hu78 := Try.underlying78); (have HR0 := Aside0.mk hr0); (have HC0 := Aside0.mk hc0); clear hr0 hc0; (have HB := Aside0.mk (Below.refl w.heap.size w)); (unfold laws_szArchiveBoxS.f at h); (have H := h); clear h; (by_cases c3 : (wrap64 (a1 - (l0.length : Int))) < 0); (· (rw [if_pos c3] at H); (have c3b0 := decide_eq_true c3); clear c3; (obtain rfl := Option.some.inj H); (go_enter Try.func9, Try.ntmps9); (go_wp2); go_ret; (exact Q18))
 ·rw [if_neg c3] at H
  (have c3b0 := decide_eq_false c3); clear c3; (have H' := Aside0.mk H); clear H; (go_enter Try.func9, Try.ntmps9); (go_wp2); (go_loopg [1, 5] k (fun kq v1 v5 w' => ∃ (x1_1 : Int) (x5_1 : Int), v1 = .int .i64 x1_1 ∧ v5 = .int .i64 x5_1 ∧ Aside0 (laws_szArchiveBoxS.l0 kq l0 x1_1 x5_1 = some r) ∧ Aside0 (kq ≤ k) ∧ Aside0 (Below w.heap.size w w')))
  case atStart => exact ⟨(wrap64 (a1 - (l0.length : Int))), (0), Q6, Q6, H', ⟨Nat.le_refl _⟩, ⟨eI HB⟩⟩
  case round =>
   (clear H'); (try clear p2); (try clear c3); (try clear c3b0); (obtain ⟨x1_1, x5_1, rfl, rfl, HA, HK1, HB⟩ := hrel)
   cases gk with
   | zero => exact absurd HA.out (by simp [laws_szArchiveBoxS.l0])
   | succ k1 =>
    (have H := HA.out); clear HA; (simp only [laws_szArchiveBoxS.l0] at H); (by_cases c4 : x5_1 < (l0.length : Int))
    ·rw [if_pos c4] at H
     (have c4b0 := decide_eq_true c4); clear c4; (by_cases c5 : 0 ≤ x5_1)
     ·rw [if_pos c5] at H
      (have c5b0 := decide_eq_true c5); clear c5; (replace H := obS H); (obtain ⟨t102, A6, H⟩ := H); (by_cases c7 : t102 < 0)
      ·rw [if_pos c7] at H
       (have c7b0 := decide_eq_true c7); clear c7; (obtain rfl := Option.some.inj H); (have p101 : 0 ≤ (x5_1 : Int) := odt); (have q101 : x5_1 < (l0.length : Int) := odt); (obtain ⟨ad101, A101_1, c101_1, e101, hx101_0, hx101_1, hl101_1, hi101_1⟩ := at_T78 HR0.out x5_1 p101 q101); (cases e101); (replace hx101_0 := hcI HB hx101_0); (replace hx101_1 := hcI HB hx101_1); (have HR101_1 := Aside0.mk hi101_1); (have HC101_1 := Aside0.mk hl101_1); clear hi101_1 hl101_1; (replace p101 := eq_true p101); (replace q101 := eq_true q101); (go_wp2_with (first | ((with_reducible refine gate_callee (f := 44) rfl ?_); refine gL (some 23) Try.func44 #[.agg #[.int .i64 ((rd_T78 l0 x5_1).f0), .slice A101_1 ((rd_T78 l0 x5_1).f1).length c101_1], .int .i64 x1_1] ?_; (with_reducible refine (laws_szArchiveBox.calls ((rd_T78 l0 x5_1).f0) _ _ ((rd_T78 l0 x5_1).f1) x1_1 t102 _ ?side1 ?side2 A6.out).mono ?_); (case side1 => exact Q27); (case side2 => exact Q28); rintro e w8 ⟨rfl, hb⟩; refine ⟨_, rfl, ?_⟩; have n0_ := Aside0.mk (sI hb HB); clear HB; have HB := n0_; clear n0_; (try clear hb); (try clear hb2); (try clear hk); (try clear hi)))); go_ret; (exact Q18)
      ·rw [if_neg c7] at H
       (have c7b0 := decide_eq_false c7); clear c7; (have H' := Aside0.mk H); clear H; (have p101 : 0 ≤ (x5_1 : Int) := odt); (have q101 : x5_1 < (l0.length : Int) := odt); (obtain ⟨ad101, A101_1, c101_1, e101, hx101_0, hx101_1, hl101_1, hi101_1⟩ := at_T78 HR0.out x5_1 p101 q101); (cases e101); (replace hx101_0 := hcI HB hx101_0); (replace hx101_1 := hcI HB hx101_1); (have HR101_1 := Aside0.mk hi101_1); (have HC101_1 := Aside0.mk hl101_1); clear hi101_1 hl101_1; (replace p101 := eq_true p101); (replace q101 := eq_true q101); (go_wp2_with (first | ((with_reducible refine gate_callee (f := 44) rfl ?_); refine gL (some 23) Try.func44 #[.agg #[.int .i64 ((rd_T78 l0 x5_1).f0), .slice A101_1 ((rd_T78 l0 x5_1).f1).length c101_1], .int .i64 x1_1] ?_; (with_reducible refine (laws_szArchiveBox.calls ((rd_T78 l0 x5_1).f0) _ _ ((rd_T78 l0 x5_1).f1) x1_1 t102 _ ?side1 ?side2 A6.out).mono ?_); (case side1 => exact Q27); (case side2 => exact Q28); rintro e w9 ⟨rfl, hb⟩; refine ⟨_, rfl, ?_⟩; have n0_ := Aside0.mk (sI hb HB); clear HB; have HB := n0_; clear n0_; (try clear hb); (try clear hb2); (try clear hk); (try clear hi)))); go_roundg k1
       case measure => have := HK1.out; omega
       case rel => exact ⟨(t102), (wrap64 (x5_1 + 1)), Q6, Q6, H', ⟨Q7⟩, ⟨eI HB⟩⟩
     ·rw [if_neg c5] at H
      exact Q8
    ·rw [if_neg c4] at H
     (have c4b0 := decide_eq_false c4); clear c4; (obtain rfl := Option.some.inj H); (go_wp2); go_ret; (exact Q18)
end Go.Proofs.Ytdbhelhoaciodaa.X
namespace Go.Proofs.Ytdbhelhoaciodaa.X
open Go.RowKit Go.Proofs.YtdbhelhoaciodaaW.PrintWords Go.Proofs.YtdbhelhoaciodaaW.PrintLast Go.Proofs.YtdbhelhoaciodaaW.PrintMore
set_option linter.unusedVariables false
set_option linter.unusedSimpArgs false
def laws_FnExactMoveItem.f (k : Nat) (l0 : List (S85)) (l1 : List (S78)) (a2 : Int) (a3 : Int) (a4 : Int) : Option Bool := (laws_szItemS.f l0 1048576).bind fun t1 => if t1 < 0 then some true else (laws_szArchiveBoxS.f k l1 t1).bind fun t6 => if t6 < 0 then some true else (laws_toItemS.f k l0).bind fun t11 => (laws_toArchiveBoxS.f k l1).bind fun t24 => (spec_MoveItem.f k t11 t24 a2 a3 a4).bind fun ⟨t37, t38⟩ => (laws_toItemS.f k l0).bind fun t53 => (laws_toArchiveBoxS.f k l1).bind fun t66 => (impl_MoveItem.f k t53 t66 a2 a3 a4).bind fun ⟨t79, t80⟩ => (laws_eqArchiveBoxS.f k t79 t37).bind fun t95 => if t95 = true then if t80 = t38 then (laws_toItemS.f k l0).bind fun t102 => (laws_eqItemS.f k t53 t102).bind fun t115 => if t115 = true then (laws_toArchiveBoxS.f k l1).bind fun t122 => (laws_eqArchiveBoxS.f k t66 t122).bind fun t135 => if t135 = true then (laws_markItemS.f k t53 1).bind fun ⟨t142, t143⟩ => (laws_markArchiveBoxS.f k t66 t142).bind fun ⟨t148, t149⟩ => if ¬ t148 < 0 then (laws_eqArchiveBoxS.f k t79 t37).bind fun t154 => if t154 = true then if t80 = t38 then (laws_markArchiveBoxS.f k t79 1).bind fun ⟨t161, t162⟩ => (laws_heldArchiveBoxS.f k t162 1).bind fun t167 => if ¬ t167 < 0 then if t167 = t161 then (laws_toItemS.f k l0).bind fun t172 => (laws_toArchiveBoxS.f k l1).bind fun t185 => (impl_MoveItem.f k t172 t185 a2 a3 a4).bind fun ⟨t198, t199⟩ => (laws_eqArchiveBoxS.f k t198 t37).bind fun t214 => if t214 = true then if t199 = t38 then (laws_heldArchiveBoxS.f k t162 1).bind fun t221 => if ¬ t221 < 0 then if t221 = t161 then some true else none else none else none else none else none else none else none else none else none else none else none else none else none
set_option maxHeartbeats 8000000 in
set_option maxRecDepth 100000 in
theorem laws_FnExactMoveItem.calls (k : Nat) (A0 : Option Addr) (c0 : Nat) (l0 : List (S85)) (A1 : Option Addr) (c1 : Nat) (l1 : List (S78)) (a2 : Int) (a3 : Int) (a4 : Int) (r : Bool) (w : World) (hr0 : Kd.C k85 w A0 l0.length l0) (hc0 : l0.length ≤ c0) (hr1 : Kd.C k78 w A1 l1.length l1) (hc1 : l1.length ≤ c1) (h : laws_FnExactMoveItem.f k l0 l1 a2 a3 a4 = some r) :
  Calls Try.prog 4 #[.slice A0 l0.length c0, .slice A1 l1.length c1, .int .i64 a2, .int .i64 a3, .int .i64 a4] w fun e w' => e = .returned (.bool r) ∧ Below w.heap.size w w' := by
 have HR0 := Aside0.mk hr0
 have HC0 := Aside0.mk hc0
 clear hr0 hc0
 have HR1 := Aside0.mk hr1
 have HC1 := Aside0.mk hc1
 clear hr1 hc1
 have HB := Aside0.mk (Below.refl w.heap.size w)
 have HS := Aside0.mk (Nat.le_refl w.heap.size)
 unfold laws_FnExactMoveItem.f at h
 have H := h
 clear h
 replace H := obS H; obtain ⟨t1, A_2, H⟩ := H
 by_cases c226 : t1 < 0
 ·rw [if_pos c226] at H
  have c226b := decide_eq_true c226
  clear c226
  obtain rfl := Option.some.inj H
  go_enter Try.func4, Try.ntmps4
  go_wp2_with (first | ((with_reducible refine gate_callee (f := 8) rfl ?_); refine gL (some 25) Try.func8 #[.slice A0 l0.length c0, .int .i64 1048576] ?_; (with_reducible refine (laws_szItemS.calls _ _ _ _ _ _ ?s_4 ?s_5 A_2.out).mono ?_); (case s_4 => exact Q92); (case s_5 => exact HC0.out); rintro e w' ⟨rfl, ⟨nd, rfl⟩⟩; refine ⟨_, rfl, ?_⟩))
  go_ret
  exact Q18
 rw [if_neg c226] at H
 have c226b := decide_eq_false c226
 clear c226
 replace H := obS H; obtain ⟨t6, A_7, H⟩ := H
 by_cases c227 : t6 < 0
 ·rw [if_pos c227] at H
  have c227b := decide_eq_true c227
  clear c227
  obtain rfl := Option.some.inj H
  go_enter Try.func4, Try.ntmps4
  go_wp2_with (first | ((with_reducible refine gate_callee (f := 8) rfl ?_); refine gL (some 25) Try.func8 #[.slice A0 l0.length c0, .int .i64 1048576] ?_; (with_reducible refine (laws_szItemS.calls _ _ _ _ _ _ ?s_4 ?s_5 A_2.out).mono ?_); (case s_4 => exact Q92); (case s_5 => exact HC0.out); rintro e w' ⟨rfl, ⟨nd, rfl⟩⟩; refine ⟨_, rfl, ?_⟩) | ((with_reducible refine gate_callee (f := 9) rfl ?_); refine gL (some 30) Try.func9 #[.slice A1 l1.length c1, .int .i64 t1] ?_; (with_reducible refine (laws_szArchiveBoxS.calls k _ _ _ _ _ _ ?s_9 ?s_10 A_7.out).mono ?_); (case s_9 => exact Q147); (case s_10 => exact HC1.out); rintro e w_8 ⟨rfl, hb⟩; refine ⟨_, rfl, ?_⟩; have n0_ := Aside0.mk (sI hb HB); have n1_ := Aside0.mk (leI hb HS); clear HB HS; have HB := n0_; have HS := n1_; clear n0_ n1_ hb))
  go_ret
  exact Q18
 rw [if_neg c227] at H
 have c227b := decide_eq_false c227
 clear c227
 replace H := obS H; obtain ⟨t11, A_12, H⟩ := H
 replace H := obS H; obtain ⟨t24, A_25, H⟩ := H
 replace H := obS H; obtain ⟨⟨t37, t38⟩, A_39, H⟩ := H
 replace H := obS H; obtain ⟨t53, A_54, H⟩ := H
 replace H := obS H; obtain ⟨t66, A_67, H⟩ := H
 replace H := obS H; obtain ⟨⟨t79, t80⟩, A_81, H⟩ := H
 replace H := obS H; obtain ⟨t95, A_96, H⟩ := H
 replace H := needS H; obtain ⟨c228, H⟩ := H
 subst c228
 replace H := needS H; obtain ⟨c229, H⟩ := H
 have c229b := bne_eq_false_iff_eq.mpr c229
 have c229d := beq_iff_eq.mpr c229
 clear c229
 replace H := obS H; obtain ⟨t102, A_103, H⟩ := H
 replace H := obS H; obtain ⟨t115, A_116, H⟩ := H
 replace H := needS H; obtain ⟨c230, H⟩ := H
 subst c230
 replace H := obS H; obtain ⟨t122, A_123, H⟩ := H
 replace H := obS H; obtain ⟨t135, A_136, H⟩ := H
 replace H := needS H; obtain ⟨c231, H⟩ := H
 subst c231
 replace H := obS H; obtain ⟨⟨t142, t143⟩, A_144, H⟩ := H
 replace H := obS H; obtain ⟨⟨t148, t149⟩, A_150, H⟩ := H
 replace H := needS H; obtain ⟨c232, H⟩ := H
 have c232b := decide_eq_false c232
 clear c232
 replace H := obS H; obtain ⟨t154, A_155, H⟩ := H
 replace H := needS H; obtain ⟨c233, H⟩ := H
 subst c233
 replace H := needS H; obtain ⟨c234, H⟩ := H
 have c234b := bne_eq_false_iff_eq.mpr c234
 have c234d := beq_iff_eq.mpr c234
 clear c234
 replace H := obS H; obtain ⟨⟨t161, t162⟩, A_163, H⟩ := H
 replace H := obS H; obtain ⟨t167, A_168, H⟩ := H
 replace H := needS H; obtain ⟨c235, H⟩ := H
 have c235b := decide_eq_false c235
 clear c235
 replace H := needS H; obtain ⟨c236, H⟩ := H
 have c236b := bne_eq_false_iff_eq.mpr c236
 have c236d := beq_iff_eq.mpr c236
 clear c236
 replace H := obS H; obtain ⟨t172, A_173, H⟩ := H
 replace H := obS H; obtain ⟨t185, A_186, H⟩ := H
 replace H := obS H; obtain ⟨⟨t198, t199⟩, A_200, H⟩ := H
 replace H := obS H; obtain ⟨t214, A_215, H⟩ := H
 replace H := needS H; obtain ⟨c237, H⟩ := H
 subst c237
 replace H := needS H; obtain ⟨c238, H⟩ := H
 have c238b := bne_eq_false_iff_eq.mpr c238
 have c238d := beq_iff_eq.mpr c238
 clear c238
 replace H := obS H; obtain ⟨t221, A_222, H⟩ := H
 replace H := needS H; obtain ⟨c239, H⟩ := H
 have c239b := decide_eq_false c239
 clear c239
 replace H := needS H; obtain ⟨c240, H⟩ := H
 have c240b := bne_eq_false_iff_eq.mpr c240
 have c240d := beq_iff_eq.mpr c240
 clear c240
 obtain rfl := Option.some.inj H
 go_enter Try.func4, Try.ntmps4
 go_wp2_with (first | ((with_reducible refine gate_callee (f := 8) rfl ?_); refine gL (some 25) Try.func8 #[.slice A0 l0.length c0, .int .i64 1048576] ?_; (with_reducible refine (laws_szItemS.calls _ _ _ _ _ _ ?s_4 ?s_5 A_2.out).mono ?_); (case s_4 => exact Q92); (case s_5 => exact HC0.out); rintro e w' ⟨rfl, ⟨nd, rfl⟩⟩; refine ⟨_, rfl, ?_⟩) | ((with_reducible refine gate_callee (f := 9) rfl ?_); refine gL (some 30) Try.func9 #[.slice A1 l1.length c1, .int .i64 t1] ?_; (with_reducible refine (laws_szArchiveBoxS.calls k _ _ _ _ _ _ ?s_9 ?s_10 A_7.out).mono ?_); (case s_9 => exact Q147); (case s_10 => exact HC1.out); rintro e w_8 ⟨rfl, hb⟩; refine ⟨_, rfl, ?_⟩; have n0_ := Aside0.mk (sI hb HB); have n1_ := Aside0.mk (leI hb HS); clear HB HS; have HB := n0_; have HS := n1_; clear n0_ n1_ hb) | ((with_reducible refine gate_callee (f := 11) rfl ?_); refine gL (some 35) Try.func11 #[.slice A0 l0.length c0] ?_; (with_reducible refine (laws_toItemS.calls k _ _ _ _ _ ?s_14 ?s_15 A_12.out).mono ?_); (case s_14 => exact Q92); (case s_15 => exact HC0.out); rintro e w_13 ⟨v17, rfl, ho16, hb⟩; refine ⟨_, rfl, ?_⟩; obtain ⟨lo18, hi19, hle_, hsz_, hin_⟩ := newRng HB HS hb; have ho_0 := Aside0.mk (hin_.r ho16); have n0_ := Aside0.mk (sI hb HB); have n1_ := Aside0.mk (hsz_); clear HB HS; have HB := n0_; have HS := n1_; clear n0_ n1_ hb; have HE20 := Aside0.mk hle_; clear hle_ hsz_ hin_ ho16; have HO23 := ho_0; clear ho_0; obtain ⟨Ao21, co22, e_⟩ := Kd.R_slice (HO23.out); subst e_) | ((with_reducible refine gate_callee (f := 12) rfl ?_); refine gL (some 37) Try.func12 #[.slice A1 l1.length c1] ?_; (with_reducible refine (laws_toArchiveBoxS.calls k _ _ _ _ _ ?s_27 ?s_28 A_25.out).mono ?_); (case s_27 => exact Q147); (case s_28 => exact HC1.out); rintro e w_26 ⟨v30, rfl, ho29, hb⟩; refine ⟨_, rfl, ?_⟩; obtain ⟨lo31, hi32, hle_, hsz_, hin_⟩ := newRng HB HS hb; have ho_0 := Aside0.mk (hin_.s ho29); have n0_ := Aside0.mk (rbI hb HO23); have n1_ := Aside0.mk (sI hb HB); have n2_ := Aside0.mk (hsz_); clear HO23 HB HS; have HO23 := n0_; have HB := n1_; have HS := n2_; clear n0_ n1_ n2_ hb; have HE33 := Aside0.mk hle_; clear hle_ hsz_ hin_ ho29; have HO36 := ho_0; clear ho_0; obtain ⟨Ao34, co35, e_⟩ := Kd.R_slice (Kd.S_R HO36.out); subst e_) | ((with_reducible refine gate_callee (f := 21) rfl ?_); refine gL (some 41) Try.func21 #[.slice Ao21 t11.length co22, .slice Ao34 t24.length co35, .int .i64 a2, .int .i64 a3, .int .i64 a4] ?_; (with_reducible refine (spec_MoveItem.calls k _ _ _ _ _ _ _ _ _ _ _ _ ?s_41 ?s_42 ?s_43 ?s_44 A_39.out).mono ?_); (case s_41 => exact (rcI HO23).1); (case s_42 => exact (rcR HO23).2); (case s_43 => exact (scI HO36).1); (case s_44 => exact (scR HO36).2); rintro e w_40 ⟨v46, rfl, ho45, hb⟩; refine ⟨_, rfl, ?_⟩; obtain ⟨lo47, hi48, hle_, hsz_, hin_⟩ := newRng HB HS hb; have ho_0 := Aside0.mk (hin_.s ho45); have n0_ := Aside0.mk (rbI hb HO23); have n1_ := Aside0.mk (sbI hb HO36); have n2_ := Aside0.mk (sI hb HB); have n3_ := Aside0.mk (hsz_); clear HO23 HO36 HB HS; have HO23 := n0_; have HO36 := n1_; have HB := n2_; have HS := n3_; clear n0_ n1_ n2_ n3_ hb; have HE49 := Aside0.mk hle_; clear hle_ hsz_ hin_ ho45; have HO52 := ho_0; clear ho_0; obtain ⟨Ao50, co51, e_⟩ := Kd.R_slice (Kd.S_R HO52.out); subst e_) | ((with_reducible refine gate_callee (f := 11) rfl ?_); refine gL (some 45) Try.func11 #[.slice A0 l0.length c0] ?_; (with_reducible refine (laws_toItemS.calls k _ _ _ _ _ ?s_56 ?s_57 A_54.out).mono ?_); (case s_56 => exact Q92); (case s_57 => exact HC0.out); rintro e w_55 ⟨v59, rfl, ho58, hb⟩; refine ⟨_, rfl, ?_⟩; obtain ⟨lo60, hi61, hle_, hsz_, hin_⟩ := newRng HB HS hb; have ho_0 := Aside0.mk (hin_.r ho58); have n0_ := Aside0.mk (rbI hb HO23); have n1_ := Aside0.mk (sbI hb HO36); have n2_ := Aside0.mk (sbI hb HO52); have n3_ := Aside0.mk (sI hb HB); have n4_ := Aside0.mk (hsz_); clear HO23 HO36 HO52 HB HS; have HO23 := n0_; have HO36 := n1_; have HO52 := n2_; have HB := n3_; have HS := n4_; clear n0_ n1_ n2_ n3_ n4_ hb; have HE62 := Aside0.mk hle_; clear hle_ hsz_ hin_ ho58; have HO65 := ho_0; clear ho_0; obtain ⟨Ao63, co64, e_⟩ := Kd.R_slice (HO65.out); subst e_) | ((with_reducible refine gate_callee (f := 12) rfl ?_); refine gL (some 47) Try.func12 #[.slice A1 l1.length c1] ?_; (with_reducible refine (laws_toArchiveBoxS.calls k _ _ _ _ _ ?s_69 ?s_70 A_67.out).mono ?_); (case s_69 => exact Q147); (case s_70 => exact HC1.out); rintro e w_68 ⟨v72, rfl, ho71, hb⟩; refine ⟨_, rfl, ?_⟩; obtain ⟨lo73, hi74, hle_, hsz_, hin_⟩ := newRng HB HS hb; have ho_0 := Aside0.mk (hin_.s ho71); have n0_ := Aside0.mk (rbI hb HO23); have n1_ := Aside0.mk (sbI hb HO36); have n2_ := Aside0.mk (sbI hb HO52); have n3_ := Aside0.mk (rbI hb HO65); have n4_ := Aside0.mk (sI hb HB); have n5_ := Aside0.mk (hsz_); clear HO23 HO36 HO52 HO65 HB HS; have HO23 := n0_; have HO36 := n1_; have HO52 := n2_; have HO65 := n3_; have HB := n4_; have HS := n5_; clear n0_ n1_ n2_ n3_ n4_ n5_ hb; have HE75 := Aside0.mk hle_; clear hle_ hsz_ hin_ ho71; have HO78 := ho_0; clear ho_0; obtain ⟨Ao76, co77, e_⟩ := Kd.R_slice (Kd.S_R HO78.out); subst e_) | ((with_reducible refine gate_callee (f := 22) rfl ?_); refine gL (some 54) Try.func22 #[.slice Ao63 t53.length co64, .slice Ao76 t66.length co77, .int .i64 a2, .int .i64 a3, .int .i64 a4] ?_; (with_reducible refine (impl_MoveItem.calls k _ _ _ _ _ _ _ _ _ _ _ _ ?s_83 ?s_84 ?s_85 ?s_86 A_81.out).mono ?_); (case s_83 => exact (rcI HO65).1); (case s_84 => exact (rcR HO65).2); (case s_85 => exact (scI HO78).1); (case s_86 => exact (scR HO78).2); rintro e w_82 ⟨v88, rfl, ho87, hb⟩; refine ⟨_, rfl, ?_⟩; obtain ⟨lo89, hi90, hle_, hsz_, hin_⟩ := newRng HB HS hb; have ho_0 := Aside0.mk (hin_.s ho87); have n0_ := Aside0.mk (rbI hb HO23); have n1_ := Aside0.mk (sbI hb HO36); have n2_ := Aside0.mk (sbI hb HO52); have n3_ := Aside0.mk (rbI hb HO65); have n4_ := Aside0.mk (sbI hb HO78); have n5_ := Aside0.mk (sI hb HB); have n6_ := Aside0.mk (hsz_); clear HO23 HO36 HO52 HO65 HO78 HB HS; have HO23 := n0_; have HO36 := n1_; have HO52 := n2_; have HO65 := n3_; have HO78 := n4_; have HB := n5_; have HS := n6_; clear n0_ n1_ n2_ n3_ n4_ n5_ n6_ hb; have HE91 := Aside0.mk hle_; clear hle_ hsz_ hin_ ho87; have HO94 := ho_0; clear ho_0; obtain ⟨Ao92, co93, e_⟩ := Kd.R_slice (Kd.S_R HO94.out); subst e_) | ((with_reducible refine gate_callee (f := 16) rfl ?_); refine gL (some 59) Try.func16 #[.slice Ao92 t79.length co93, .slice Ao50 t37.length co51] ?_; (with_reducible refine (laws_eqArchiveBoxS.calls k _ _ _ _ _ _ _ _ ?s_98 ?s_99 ?s_100 ?s_101 A_96.out ⟨rfl⟩).mono ?_); (case s_98 => exact (scI HO94).1); (case s_99 => exact (scR HO94).2); (case s_100 => exact (scI HO52).1); (case s_101 => exact (scR HO52).2); rintro e w_97 ⟨rfl, hb⟩; refine ⟨_, rfl, ?_⟩; have n0_ := Aside0.mk (rbI hb HO23); have n1_ := Aside0.mk (sbI hb HO36); have n2_ := Aside0.mk (sbI hb HO52); have n3_ := Aside0.mk (rbI hb HO65); have n4_ := Aside0.mk (sbI hb HO78); have n5_ := Aside0.mk (sbI hb HO94); have n6_ := Aside0.mk (sI hb HB); have n7_ := Aside0.mk (leI hb HS); clear HO23 HO36 HO52 HO65 HO78 HO94 HB HS; have HO23 := n0_; have HO36 := n1_; have HO52 := n2_; have HO65 := n3_; have HO78 := n4_; have HO94 := n5_; have HB := n6_; have HS := n7_; clear n0_ n1_ n2_ n3_ n4_ n5_ n6_ n7_ hb) | ((with_reducible refine gate_callee (f := 11) rfl ?_); refine gL (some 68) Try.func11 #[.slice A0 l0.length c0] ?_; (with_reducible refine (laws_toItemS.calls k _ _ _ _ _ ?s_105 ?s_106 A_103.out).mono ?_); (case s_105 => exact Q92); (case s_106 => exact HC0.out); rintro e w_104 ⟨v108, rfl, ho107, hb⟩; refine ⟨_, rfl, ?_⟩; obtain ⟨lo109, hi110, hle_, hsz_, hin_⟩ := newRng HB HS hb; have ho_0 := Aside0.mk (hin_.r ho107); have n0_ := Aside0.mk (rbI hb HO23); have n1_ := Aside0.mk (sbI hb HO36); have n2_ := Aside0.mk (sbI hb HO52); have n3_ := Aside0.mk (rbI hb HO65); have n4_ := Aside0.mk (sbI hb HO78); have n5_ := Aside0.mk (sbI hb HO94); have n6_ := Aside0.mk (sI hb HB); have n7_ := Aside0.mk (hsz_); clear HO23 HO36 HO52 HO65 HO78 HO94 HB HS; have HO23 := n0_; have HO36 := n1_; have HO52 := n2_; have HO65 := n3_; have HO78 := n4_; have HO94 := n5_; have HB := n6_; have HS := n7_; clear n0_ n1_ n2_ n3_ n4_ n5_ n6_ n7_ hb; have HE111 := Aside0.mk hle_; clear hle_ hsz_ hin_ ho107; have HO114 := ho_0; clear ho_0; obtain ⟨Ao112, co113, e_⟩ := Kd.R_slice (HO114.out); subst e_) | ((with_reducible refine gate_callee (f := 15) rfl ?_); refine gL (some 69) Try.func15 #[.slice Ao63 t53.length co64, .slice Ao112 t102.length co113] ?_; (with_reducible refine (laws_eqItemS.calls k _ _ _ _ _ _ _ _ ?s_118 ?s_119 ?s_120 ?s_121 A_116.out ⟨rfl⟩).mono ?_); (case s_118 => exact (rcI HO65).1); (case s_119 => exact (rcR HO65).2); (case s_120 => exact (rcI HO114).1); (case s_121 => exact (rcR HO114).2); rintro e w_117 ⟨rfl, hb⟩; refine ⟨_, rfl, ?_⟩; have n0_ := Aside0.mk (rbI hb HO23); have n1_ := Aside0.mk (sbI hb HO36); have n2_ := Aside0.mk (sbI hb HO52); have n3_ := Aside0.mk (rbI hb HO65); have n4_ := Aside0.mk (sbI hb HO78); have n5_ := Aside0.mk (sbI hb HO94); have n6_ := Aside0.mk (rbI hb HO114); have n7_ := Aside0.mk (sI hb HB); have n8_ := Aside0.mk (leI hb HS); clear HO23 HO36 HO52 HO65 HO78 HO94 HO114 HB HS; have HO23 := n0_; have HO36 := n1_; have HO52 := n2_; have HO65 := n3_; have HO78 := n4_; have HO94 := n5_; have HO114 := n6_; have HB := n7_; have HS := n8_; clear n0_ n1_ n2_ n3_ n4_ n5_ n6_ n7_ n8_ hb) | ((with_reducible refine gate_callee (f := 12) rfl ?_); refine gL (some 73) Try.func12 #[.slice A1 l1.length c1] ?_; (with_reducible refine (laws_toArchiveBoxS.calls k _ _ _ _ _ ?s_125 ?s_126 A_123.out).mono ?_); (case s_125 => exact Q147); (case s_126 => exact HC1.out); rintro e w_124 ⟨v128, rfl, ho127, hb⟩; refine ⟨_, rfl, ?_⟩; obtain ⟨lo129, hi130, hle_, hsz_, hin_⟩ := newRng HB HS hb; have ho_0 := Aside0.mk (hin_.s ho127); have n0_ := Aside0.mk (rbI hb HO23); have n1_ := Aside0.mk (sbI hb HO36); have n2_ := Aside0.mk (sbI hb HO52); have n3_ := Aside0.mk (rbI hb HO65); have n4_ := Aside0.mk (sbI hb HO78); have n5_ := Aside0.mk (sbI hb HO94); have n6_ := Aside0.mk (rbI hb HO114); have n7_ := Aside0.mk (sI hb HB); have n8_ := Aside0.mk (hsz_); clear HO23 HO36 HO52 HO65 HO78 HO94 HO114 HB HS; have HO23 := n0_; have HO36 := n1_; have HO52 := n2_; have HO65 := n3_; have HO78 := n4_; have HO94 := n5_; have HO114 := n6_; have HB := n7_; have HS := n8_; clear n0_ n1_ n2_ n3_ n4_ n5_ n6_ n7_ n8_ hb; have HE131 := Aside0.mk hle_; clear hle_ hsz_ hin_ ho127; have HO134 := ho_0; clear ho_0; obtain ⟨Ao132, co133, e_⟩ := Kd.R_slice (Kd.S_R HO134.out); subst e_) | ((with_reducible refine gate_callee (f := 16) rfl ?_); refine gL (some 74) Try.func16 #[.slice Ao76 t66.length co77, .slice Ao132 t122.length co133] ?_; (with_reducible refine (laws_eqArchiveBoxS.calls k _ _ _ _ _ _ _ _ ?s_138 ?s_139 ?s_140 ?s_141 A_136.out ⟨rfl⟩).mono ?_); (case s_138 => exact (scI HO78).1); (case s_139 => exact (scR HO78).2); (case s_140 => exact (scI HO134).1); (case s_141 => exact (scR HO134).2); rintro e w_137 ⟨rfl, hb⟩; refine ⟨_, rfl, ?_⟩; have n0_ := Aside0.mk (rbI hb HO23); have n1_ := Aside0.mk (sbI hb HO36); have n2_ := Aside0.mk (sbI hb HO52); have n3_ := Aside0.mk (rbI hb HO65); have n4_ := Aside0.mk (sbI hb HO78); have n5_ := Aside0.mk (sbI hb HO94); have n6_ := Aside0.mk (rbI hb HO114); have n7_ := Aside0.mk (sbI hb HO134); have n8_ := Aside0.mk (sI hb HB); have n9_ := Aside0.mk (leI hb HS); clear HO23 HO36 HO52 HO65 HO78 HO94 HO114 HO134 HB HS; have HO23 := n0_; have HO36 := n1_; have HO52 := n2_; have HO65 := n3_; have HO78 := n4_; have HO94 := n5_; have HO114 := n6_; have HO134 := n7_; have HB := n8_; have HS := n9_; clear n0_ n1_ n2_ n3_ n4_ n5_ n6_ n7_ n8_ n9_ hb) | ((with_reducible refine gate_callee (f := 17) rfl ?_); refine gL (some 78) Try.func17 #[.slice Ao63 t53.length co64, .int .i64 1] ?_; (with_reducible refine (laws_markItemS.calls k (fun k_ => lo60 ≤ k_ ∧ k_ < hi61) _ _ _ _ _ w _ (eI HB) (rI HO65) A_144.out).mono ?_); rintro e w_145 ⟨rfl, ho146, hb, hk⟩; refine ⟨_, rfl, ?_⟩; have hkp := keptRng (lo := lo60) (hi := hi61) hk (fun k_ h_ => Q148); clear HO65; have n0_ := Aside0.mk (krI hkp HO23 Q149); have n1_ := Aside0.mk (ksI hkp HO36 Q149); have n2_ := Aside0.mk (ksI hkp HO52 Q149); have n3_ := Aside0.mk (ksI hkp HO78 Q149); have n4_ := Aside0.mk (ksI hkp HO94 Q149); have n5_ := Aside0.mk (krI hkp HO114 Q149); have n6_ := Aside0.mk (ksI hkp HO134 Q149); have n7_ := Aside0.mk (hb); have n8_ := Aside0.mk (leK hk HS); clear HO23 HO36 HO52 HO78 HO94 HO114 HO134 HB HS; have HO23 := n0_; have HO36 := n1_; have HO52 := n2_; have HO78 := n3_; have HO94 := n4_; have HO114 := n5_; have HO134 := n6_; have HB := n7_; have HS := n8_; clear n0_ n1_ n2_ n3_ n4_ n5_ n6_ n7_ n8_ hb hk hkp ho146) | ((with_reducible refine gate_callee (f := 18) rfl ?_); refine gL (some 81) Try.func18 #[.slice Ao76 t66.length co77, .int .i64 t142] ?_; (with_reducible refine (laws_markArchiveBoxS.calls k (fun k_ => lo73 ≤ k_ ∧ k_ < hi74) _ _ _ _ _ w _ (eI HB) (sbI0 HO78) A_150.out).mono ?_); rintro e w_151 ⟨rfl, ho152, hb, hk⟩; refine ⟨_, rfl, ?_⟩; have hkp := keptRng (lo := lo73) (hi := hi74) hk (fun k_ h_ => Q148); clear HO78; have n0_ := Aside0.mk (krI hkp HO23 Q149); have n1_ := Aside0.mk (ksI hkp HO36 Q149); have n2_ := Aside0.mk (ksI hkp HO52 Q149); have n3_ := Aside0.mk (ksI hkp HO94 Q149); have n4_ := Aside0.mk (krI hkp HO114 Q149); have n5_ := Aside0.mk (ksI hkp HO134 Q149); have n6_ := Aside0.mk (hb); have n7_ := Aside0.mk (leK hk HS); clear HO23 HO36 HO52 HO94 HO114 HO134 HB HS; have HO23 := n0_; have HO36 := n1_; have HO52 := n2_; have HO94 := n3_; have HO114 := n4_; have HO134 := n5_; have HB := n6_; have HS := n7_; clear n0_ n1_ n2_ n3_ n4_ n5_ n6_ n7_ hb hk hkp ho152) | ((with_reducible refine gate_callee (f := 16) rfl ?_); refine gate_guard Q141 ?_; refine gL (some 87) Try.func16 #[.slice Ao92 t79.length co93, .slice Ao50 t37.length co51] ?_; (with_reducible refine (laws_eqArchiveBoxS.calls k _ _ _ _ _ _ _ _ ?s_157 ?s_158 ?s_159 ?s_160 A_155.out ⟨rfl⟩).mono ?_); (case s_157 => exact (scI HO94).1); (case s_158 => exact (scR HO94).2); (case s_159 => exact (scI HO52).1); (case s_160 => exact (scR HO52).2); rintro e w_156 ⟨rfl, hb⟩; refine ⟨_, rfl, ?_⟩; have n0_ := Aside0.mk (rbI hb HO23); have n1_ := Aside0.mk (sbI hb HO36); have n2_ := Aside0.mk (sbI hb HO52); have n3_ := Aside0.mk (sbI hb HO94); have n4_ := Aside0.mk (rbI hb HO114); have n5_ := Aside0.mk (sbI hb HO134); have n6_ := Aside0.mk (sI hb HB); have n7_ := Aside0.mk (leI hb HS); clear HO23 HO36 HO52 HO94 HO114 HO134 HB HS; have HO23 := n0_; have HO36 := n1_; have HO52 := n2_; have HO94 := n3_; have HO114 := n4_; have HO134 := n5_; have HB := n6_; have HS := n7_; clear n0_ n1_ n2_ n3_ n4_ n5_ n6_ n7_ hb) | ((with_reducible refine gate_callee (f := 18) rfl ?_); refine gL (some 97) Try.func18 #[.slice Ao92 t79.length co93, .int .i64 1] ?_; (with_reducible refine (laws_markArchiveBoxS.calls k (fun k_ => lo89 ≤ k_ ∧ k_ < hi90) _ _ _ _ _ w _ (eI HB) (sbI0 HO94) A_163.out).mono ?_); rintro e w_164 ⟨rfl, ho165, hb, hk⟩; refine ⟨_, rfl, ?_⟩; have hkp := keptRng (lo := lo89) (hi := hi90) hk (fun k_ h_ => Q148); have n0_ := Aside0.mk (krI hkp HO23 Q149); have n1_ := Aside0.mk (ksI hkp HO36 Q149); have n2_ := Aside0.mk (ksI hkp HO52 Q149); have n3_ := Aside0.mk (krI hkp HO114 Q149); have n4_ := Aside0.mk (ksI hkp HO134 Q149); have n5_ := Aside0.mk (Kd.S_mono (ok' := fun _ => True) ho165 (fun _ _ => trivial)); have n6_ := Aside0.mk (hb); have n7_ := Aside0.mk (leK hk HS); clear HO23 HO36 HO52 HO114 HO134 HO94 HB HS; have HO23 := n0_; have HO36 := n1_; have HO52 := n2_; have HO114 := n3_; have HO134 := n4_; have HO94 := n5_; have HB := n6_; have HS := n7_; clear n0_ n1_ n2_ n3_ n4_ n5_ n6_ n7_ hb hk hkp ho165) | ((with_reducible refine gate_callee (f := 23) rfl ?_); refine gL (some 100) Try.func23 #[.slice Ao92 t79.length co93, .int .i64 1] ?_; refine calls_of_args (args' := #[.slice Ao92 t162.length co93, .int .i64 1]) (by rw [← slI HO94]) ?_; (with_reducible refine (laws_heldArchiveBoxS.calls k _ _ _ _ _ _ ?s_170 ?s_171 A_168.out).mono ?_); (case s_170 => exact (scI HO94).1); (case s_171 => exact (scR HO94).2); rintro e w' ⟨rfl, ⟨nd, rfl⟩⟩; refine ⟨_, rfl, ?_⟩) | ((with_reducible refine gate_callee (f := 11) rfl ?_); refine gL (some 108) Try.func11 #[.slice A0 l0.length c0] ?_; (with_reducible refine (laws_toItemS.calls k _ _ _ _ _ ?s_175 ?s_176 A_173.out).mono ?_); (case s_175 => exact Q92); (case s_176 => exact HC0.out); rintro e w_174 ⟨v178, rfl, ho177, hb⟩; refine ⟨_, rfl, ?_⟩; obtain ⟨lo179, hi180, hle_, hsz_, hin_⟩ := newRng HB HS hb; have ho_0 := Aside0.mk (hin_.r ho177); have n0_ := Aside0.mk (rbI hb HO23); have n1_ := Aside0.mk (sbI hb HO36); have n2_ := Aside0.mk (sbI hb HO52); have n3_ := Aside0.mk (sbI hb HO94); have n4_ := Aside0.mk (rbI hb HO114); have n5_ := Aside0.mk (sbI hb HO134); have n6_ := Aside0.mk (sI hb HB); have n7_ := Aside0.mk (hsz_); clear HO23 HO36 HO52 HO94 HO114 HO134 HB HS; have HO23 := n0_; have HO36 := n1_; have HO52 := n2_; have HO94 := n3_; have HO114 := n4_; have HO134 := n5_; have HB := n6_; have HS := n7_; clear n0_ n1_ n2_ n3_ n4_ n5_ n6_ n7_ hb; have HE181 := Aside0.mk hle_; clear hle_ hsz_ hin_ ho177; have HO184 := ho_0; clear ho_0; obtain ⟨Ao182, co183, e_⟩ := Kd.R_slice (HO184.out); subst e_) | ((with_reducible refine gate_callee (f := 12) rfl ?_); refine gL (some 110) Try.func12 #[.slice A1 l1.length c1] ?_; (with_reducible refine (laws_toArchiveBoxS.calls k _ _ _ _ _ ?s_188 ?s_189 A_186.out).mono ?_); (case s_188 => exact Q147); (case s_189 => exact HC1.out); rintro e w_187 ⟨v191, rfl, ho190, hb⟩; refine ⟨_, rfl, ?_⟩; obtain ⟨lo192, hi193, hle_, hsz_, hin_⟩ := newRng HB HS hb; have ho_0 := Aside0.mk (hin_.s ho190); have n0_ := Aside0.mk (rbI hb HO23); have n1_ := Aside0.mk (sbI hb HO36); have n2_ := Aside0.mk (sbI hb HO52); have n3_ := Aside0.mk (sbI hb HO94); have n4_ := Aside0.mk (rbI hb HO114); have n5_ := Aside0.mk (sbI hb HO134); have n6_ := Aside0.mk (rbI hb HO184); have n7_ := Aside0.mk (sI hb HB); have n8_ := Aside0.mk (hsz_); clear HO23 HO36 HO52 HO94 HO114 HO134 HO184 HB HS; have HO23 := n0_; have HO36 := n1_; have HO52 := n2_; have HO94 := n3_; have HO114 := n4_; have HO134 := n5_; have HO184 := n6_; have HB := n7_; have HS := n8_; clear n0_ n1_ n2_ n3_ n4_ n5_ n6_ n7_ n8_ hb; have HE194 := Aside0.mk hle_; clear hle_ hsz_ hin_ ho190; have HO197 := ho_0; clear ho_0; obtain ⟨Ao195, co196, e_⟩ := Kd.R_slice (Kd.S_R HO197.out); subst e_) | ((with_reducible refine gate_callee (f := 22) rfl ?_); refine gL (some 114) Try.func22 #[.slice Ao182 t172.length co183, .slice Ao195 t185.length co196, .int .i64 a2, .int .i64 a3, .int .i64 a4] ?_; (with_reducible refine (impl_MoveItem.calls k _ _ _ _ _ _ _ _ _ _ _ _ ?s_202 ?s_203 ?s_204 ?s_205 A_200.out).mono ?_); (case s_202 => exact (rcI HO184).1); (case s_203 => exact (rcR HO184).2); (case s_204 => exact (scI HO197).1); (case s_205 => exact (scR HO197).2); rintro e w_201 ⟨v207, rfl, ho206, hb⟩; refine ⟨_, rfl, ?_⟩; obtain ⟨lo208, hi209, hle_, hsz_, hin_⟩ := newRng HB HS hb; have ho_0 := Aside0.mk (hin_.s ho206); have n0_ := Aside0.mk (rbI hb HO23); have n1_ := Aside0.mk (sbI hb HO36); have n2_ := Aside0.mk (sbI hb HO52); have n3_ := Aside0.mk (sbI hb HO94); have n4_ := Aside0.mk (rbI hb HO114); have n5_ := Aside0.mk (sbI hb HO134); have n6_ := Aside0.mk (rbI hb HO184); have n7_ := Aside0.mk (sbI hb HO197); have n8_ := Aside0.mk (sI hb HB); have n9_ := Aside0.mk (hsz_); clear HO23 HO36 HO52 HO94 HO114 HO134 HO184 HO197 HB HS; have HO23 := n0_; have HO36 := n1_; have HO52 := n2_; have HO94 := n3_; have HO114 := n4_; have HO134 := n5_; have HO184 := n6_; have HO197 := n7_; have HB := n8_; have HS := n9_; clear n0_ n1_ n2_ n3_ n4_ n5_ n6_ n7_ n8_ n9_ hb; have HE210 := Aside0.mk hle_; clear hle_ hsz_ hin_ ho206; have HO213 := ho_0; clear ho_0; obtain ⟨Ao211, co212, e_⟩ := Kd.R_slice (Kd.S_R HO213.out); subst e_) | ((with_reducible refine gate_callee (f := 16) rfl ?_); refine gL (some 119) Try.func16 #[.slice Ao211 t198.length co212, .slice Ao50 t37.length co51] ?_; (with_reducible refine (laws_eqArchiveBoxS.calls k _ _ _ _ _ _ _ _ ?s_217 ?s_218 ?s_219 ?s_220 A_215.out ⟨rfl⟩).mono ?_); (case s_217 => exact (scI HO213).1); (case s_218 => exact (scR HO213).2); (case s_219 => exact (scI HO52).1); (case s_220 => exact (scR HO52).2); rintro e w_216 ⟨rfl, hb⟩; refine ⟨_, rfl, ?_⟩; have n0_ := Aside0.mk (rbI hb HO23); have n1_ := Aside0.mk (sbI hb HO36); have n2_ := Aside0.mk (sbI hb HO52); have n3_ := Aside0.mk (sbI hb HO94); have n4_ := Aside0.mk (rbI hb HO114); have n5_ := Aside0.mk (sbI hb HO134); have n6_ := Aside0.mk (rbI hb HO184); have n7_ := Aside0.mk (sbI hb HO197); have n8_ := Aside0.mk (sbI hb HO213); have n9_ := Aside0.mk (sI hb HB); have n10_ := Aside0.mk (leI hb HS); clear HO23 HO36 HO52 HO94 HO114 HO134 HO184 HO197 HO213 HB HS; have HO23 := n0_; have HO36 := n1_; have HO52 := n2_; have HO94 := n3_; have HO114 := n4_; have HO134 := n5_; have HO184 := n6_; have HO197 := n7_; have HO213 := n8_; have HB := n9_; have HS := n10_; clear n0_ n1_ n2_ n3_ n4_ n5_ n6_ n7_ n8_ n9_ n10_ hb) | ((with_reducible refine gate_callee (f := 23) rfl ?_); refine gL (some 128) Try.func23 #[.slice Ao92 t79.length co93, .int .i64 1] ?_; refine calls_of_args (args' := #[.slice Ao92 t162.length co93, .int .i64 1]) (by rw [← slI HO94]) ?_; (with_reducible refine (laws_heldArchiveBoxS.calls k _ _ _ _ _ _ ?s_224 ?s_225 A_222.out).mono ?_); (case s_224 => exact (scI HO94).1); (case s_225 => exact (scR HO94).2); rintro e w' ⟨rfl, ⟨nd, rfl⟩⟩; refine ⟨_, rfl, ?_⟩))
 go_ret
 exact Q18
end Go.Proofs.Ytdbhelhoaciodaa.X
set_option linter.unusedVariables false
set_option linter.unusedSimpArgs false
namespace Go.Proofs.Ytdbhelhoaciodaa.Open
open Go.RowKit Go.Proofs.YtdbhelhoaciodaaW.PrintWords
def Opens (P : Program) (t : TypeId) {α : Type} (d : Kd α) (good : α → Prop) : Prop :=
 ∀ (H : Type) (enc : TypeId × Value → H) (w : World) (fuel : Nat) (cs : List Value) (x : DataW H × List MemPlace),
  DataW.trod enc P w 0 (fun _ => true) true fuel t cs = some x → ∃ a, d.K w a cs ∧ good a
theorem opens_int {P : Program} {t : TypeId} {k : IntKind} (ht : P.underlying t = some (.int k)) : Opens P t (Kd.int k) (fun n => (Lit.int k n).wf = true) := by
 intro H enc w fuel cs x hx
 obtain ⟨n, rfl, _, hw⟩ := DataW.trod_int ht hx
 exact ⟨n, rfl, hw⟩
theorem cells_each {w : World} {a : Addr} {n : Nat} {cs : List Value} (h : w.cells? 0 a n = some cs) : cs.length = n ∧ ∀ i u, cs[i]? = some u → w.cell? (a.add i) = some u := by
 have h1 := World.cells?_some h
 refine ⟨h1.2.1, fun i u hu => ?_⟩
 have hi : i < n := by
  have := (List.getElem?_eq_some_iff.1 hu).1
  omega
 rw [h1.2.2 i hi, hu]
theorem opens_slice {P : Program} {t e : TypeId} {α : Type} {d : Kd α} {g : α → Prop} (ht : P.underlying t = some (.slice e)) (hsz : P.cellsOf e = d.sz) (h : Opens P e d g) :
  Opens P t (Kd.slice e d) (fun xs => xs.length ≤ 9223372036854775807 ∧ ∀ x ∈ xs, g x) := by
 intro H enc w fuel cs x hx
 rcases DataW.trod_slice ht hx with ⟨rfl, _⟩ | ⟨a, len, cap, elems, rest, n, rfl, rfl, _, _, hlc, hcap, hel, hget, _, _⟩
 ·exact ⟨[], ⟨none, 0, rfl, Nat.le_refl _, Kd.C_nil d w⟩, by simp, by simp⟩
 ·simp only [maxLen] at hcap
  have each : ∀ i, i < len → ∃ b : α, ∃ c : List Value, c.length = d.sz ∧ d.K w b c ∧ g b ∧ ∀ j u, c[j]? = some u → w.cell? (a.add (i * d.sz + j)) = some u := by
   intro i hi
   have h1 := hget i hi
   obtain ⟨y, hy⟩ : ∃ y, elems[i]? = some y := ⟨_, List.getElem?_eq_getElem (by omega)⟩
   rw [hy] at h1
   obtain ⟨c, hc, ht'⟩ := Option.bind_eq_some_iff.1 h1
   obtain ⟨b, hK, hg⟩ := h H enc w n c y ht'
   obtain ⟨hl, hcell⟩ := cells_each hc
   refine ⟨b, c, hl.trans hsz, hK, hg, fun j u hu => ?_⟩
   have := hcell j u hu
   rw [Deep.add_add, hsz] at this
   exact this
  have mk : ∀ m, m ≤ len → ∃ xs : List α, xs.length = m ∧ (∀ x ∈ xs, g x) ∧ ∀ j p, xs[j]? = some p → ∃ c, c.length = d.sz ∧ d.K w p c ∧ ∀ i u, c[i]? = some u → w.cell? (a.add (j * d.sz + i)) = some u := by
   intro m
   induction m with
   | zero => exact fun _ => ⟨[], rfl, by simp, by simp⟩
   | succ m ih =>
    intro hm
    obtain ⟨xs, hl, hg, hx⟩ := ih (by omega)
    obtain ⟨b, c, hc1, hc2, hc3, hc4⟩ := each m (by omega)
    refine ⟨xs ++ [b], by simp [hl], ?_, ?_⟩
    ·intro x hx'
     rcases List.mem_append.1 hx' with hx' | hx'
     ·exact hg x hx'
     ·rw [List.mem_singleton.1 hx']; exact hc3
    ·intro j p hj
     by_cases hjm : j < m
     ·rw [List.getElem?_append_left (by omega)] at hj
      exact hx j p hj
     ·have hlt := (List.getElem?_eq_some_iff.1 hj).1
      simp only [List.length_append, List.length_cons, List.length_nil] at hlt
      obtain rfl : j = m := by omega
      rw [List.getElem?_append_right (by omega), hl, Nat.sub_self] at hj
      simp only [List.getElem?_cons_zero, Option.some.injEq] at hj
      subst hj
      exact ⟨c, hc1, hc2, hc4⟩
  obtain ⟨ys, hl, hg, hy⟩ := mk len (Nat.le_refl _)
  subst hl
  exact ⟨ys, ⟨some a, cap, rfl, hlc, rfl, by omega, fun _ => ⟨a, rfl, hy⟩⟩, by omega, hg⟩
def offs (L : List (TypeId × Nat)) (i : Nat) : Nat := ((L.take i).map (·.2)).sum
def Sect (P : Program) (L : List (TypeId × Nat)) {α : Type} (d : Kd α) (good : α → Prop) : Prop :=
 ∀ (H : Type) (enc : TypeId × Value → H) (w : World) (n : Nat) (cs : List Value), cs.length = (L.map (·.2)).sum →
  (∀ i p, L[i]? = some p → ∃ y, DataW.trod enc P w 0 (fun _ => true) true n p.1 ((cs.drop (offs L i)).take p.2) = some y) → ∃ a, d.K w a cs ∧ good a
theorem sect_one {P : Program} {t : TypeId} {s : Nat} {α : Type} {d : Kd α} {g : α → Prop} (h : Opens P t d g) : Sect P [(t, s)] d g := by
 intro H enc w n cs hl hf
 obtain ⟨y, hy⟩ := hf 0 _ rfl
 simp only [offs, List.take_zero, List.map_nil, List.sum_nil, List.drop_zero] at hy
 rw [List.take_of_length_le (by simp at hl; omega)] at hy
 exact h H enc w n cs y hy
theorem sect_cons {P : Program} {t : TypeId} {s : Nat} {L : List (TypeId × Nat)} {α β : Type} {d : Kd α} {d' : Kd β} {g : α → Prop} {g' : β → Prop} (h : Opens P t d g) (h' : Sect P L d' g') :
  Sect P ((t, s) :: L) (Kd.pair d d') (fun x => g x.1 ∧ g' x.2) := by
 intro H enc w n cs hl hf
 obtain ⟨y, hy⟩ := hf 0 _ rfl
 simp only [offs, List.take_zero, List.map_nil, List.sum_nil, List.drop_zero] at hy
 obtain ⟨a, ha, hga⟩ := h H enc w n _ y hy
 obtain ⟨b, hb, hgb⟩ := h' H enc w n (cs.drop s) (by simp only [List.map_cons, List.sum_cons] at hl; rw [List.length_drop, hl]; omega) (by
  intro i p hp
  obtain ⟨z, hz⟩ := hf (i + 1) p (by simpa using hp)
  refine ⟨z, ?_⟩
  simp only [offs, List.take_succ_cons, List.map_cons, List.sum_cons] at hz
  rw [List.drop_drop]
  exact hz)
 exact ⟨(a, b), ⟨cs.take s, cs.drop s, (List.take_append_drop s cs).symm, ha, hb⟩, hga, hgb⟩
theorem opens_struct {P : Program} {t : TypeId} {fs : Array Field} {α β : Type} {d : Kd α} {g : α → Prop} (f : β → α) (k : α → β) (hk : ∀ x, f (k x) = x) (L : List (TypeId × Nat))
  (ht : P.underlying t = some (.struct fs)) (hL : L = fs.toList.map (fun f => (f.type, P.cellsOf f.type))) (ho : fs.toList.map (·.offset) = (List.range L.length).map (offs L)) (hc : P.cellsOf t = (L.map (·.2)).sum)
  (h : Sect P L d g) : Opens P t (Kd.iso d f) (fun x => g (f x)) := by
 intro H enc w fuel cs x hx
 obtain ⟨xs, n, rfl, rfl, hl, hxl, hf⟩ := DataW.trod_struct ht hx
 obtain ⟨a, ha, hg⟩ := h H enc w n cs (hl.trans hc) (by
  intro i p hp
  have hi : i < fs.size := by
   have := (List.getElem?_eq_some_iff.1 hp).1
   rw [hL] at this
   simpa using this
  have hfi : fs[i]? = some fs[i] := Array.getElem?_eq_getElem hi
  have h1 := hf i fs[i] hfi
  obtain ⟨y, hy⟩ : ∃ y, xs[i]? = some y := ⟨_, List.getElem?_eq_getElem (by omega)⟩
  rw [hy] at h1
  refine ⟨y, ?_⟩
  have hp' : p = (fs[i].type, P.cellsOf fs[i].type) := by
   rw [hL] at hp
   simp only [List.getElem?_map, Array.getElem?_toList, hfi, Option.map_some, Option.some.injEq] at hp
   exact hp.symm
  have hoi : fs[i].offset = offs L i := by
   have h2 : (fs.toList.map (·.offset))[i]? = ((List.range L.length).map (offs L))[i]? := by rw [ho]
   have hLl : L.length = fs.size := by rw [hL]; simp
   simp only [List.getElem?_map, Array.getElem?_toList, hfi, Option.map_some, List.getElem?_range (show i < L.length by omega)] at h2
   exact Option.some.inj h2
  rw [hp', ← hoi]
  exact h1)
 refine ⟨k a, ?_, ?_⟩
 ·show d.K w (f (k a)) cs
  rw [hk]; exact ha
 ·show g (f (k a))
  rw [hk]; exact hg
theorem arg_slice {P : Program} {W : World} {H : Type} {enc : TypeId × Value → H} {t e : TypeId} {α : Type} {d : Kd α} {g : List α → Prop} {v : Value} {x : DataW H} {p : List MemPlace} (h : Opens P t (Kd.slice e d) g)
  (hs : ∃ a len cap, v = .slice a len cap) (hv : DataW.Trod enc P W 0 (fun _ => true) true t v x p) : ∃ A c xs, v = .slice A xs.length c ∧ xs.length ≤ c ∧ Kd.C d W A xs.length xs ∧ g xs := by
 obtain ⟨a, len, cap, rfl⟩ := hs
 obtain ⟨fuel, hf⟩ := hv
 obtain ⟨xs, ⟨A, c, he, hl, hc⟩, hg⟩ := h H enc W fuel _ _ hf
 simp [Value.cells] at he
 obtain ⟨rfl, rfl, rfl⟩ := he
 exact ⟨_, _, xs, rfl, hl, hc, hg⟩
end Go.Proofs.Ytdbhelhoaciodaa.Open
set_option linter.unusedVariables false
namespace Go.Proofs.Ytdbhelhoaciodaa.X
open Go.RowKit Go.Proofs.YtdbhelhoaciodaaW.PrintWords Go.Proofs.Ytdbhelhoaciodaa.Open
theorem op3 : Opens Try.prog 3 (Kd.int .i64) (fun n => (Lit.int .i64 n).wf = true) := opens_int Try.underlying3
def good85 (x : S85) : Prop := (Lit.int .i64 x.f0).wf = true ∧ (Lit.int .i64 x.f1).wf = true ∧ (Lit.int .i64 x.f2).wf = true
theorem op85 : Opens Try.prog 85 k85 good85 :=
 opens_struct (fun x : S85 => (x.f0, x.f1, x.f2)) (fun p => ⟨p.1, p.2.1, p.2.2⟩) (fun _ => rfl) [(3, 1), (3, 1), (3, 1)] Try.underlying85 (by kernel_rfl) (by decide) (by kernel_rfl) (sect_cons op3 (sect_cons op3 (sect_one op3)))
theorem op22 : Opens Try.prog 22 (Kd.slice 85 k85) (fun xs => (xs.length ≤ 9223372036854775807 ∧ ∀ y ∈ xs, good85 y)) := opens_slice Try.underlying22 (by kernel_rfl) op85
theorem op26 : Opens Try.prog 26 (Kd.slice 3 (Kd.int .i64)) (fun xs => (xs.length ≤ 9223372036854775807 ∧ ∀ y ∈ xs, (Lit.int .i64 y).wf = true)) := opens_slice Try.underlying26 (by kernel_rfl) op3
def good78 (x : S78) : Prop := (Lit.int .i64 x.f0).wf = true ∧ (x.f1.length ≤ 9223372036854775807 ∧ ∀ y ∈ x.f1, (Lit.int .i64 y).wf = true)
theorem op78 : Opens Try.prog 78 k78 good78 :=
 opens_struct (fun x : S78 => (x.f0, x.f1)) (fun p => ⟨p.1, p.2⟩) (fun _ => rfl) [(3, 1), (26, 1)] Try.underlying78 (by kernel_rfl) (by decide) (by kernel_rfl) (sect_cons op3 (sect_one op26))
theorem op23 : Opens Try.prog 23 (Kd.slice 78 k78) (fun xs => (xs.length ≤ 9223372036854775807 ∧ ∀ y ∈ xs, good78 y)) := opens_slice Try.underlying23 (by kernel_rfl) op78
end Go.Proofs.Ytdbhelhoaciodaa.X
namespace Go.Proofs.Ytdbhelhoaciodaa.X
open Go.RowKit Go.Proofs.YtdbhelhoaciodaaW.PrintWords
def PureFnExactMoveItem : Prop := ∀ (a0 : List (S85)) (a1 : List (S78)) (a2 : Int) (a3 : Int) (a4 : Int), (a0.length ≤ 9223372036854775807 ∧ ∀ y ∈ a0, good85 y) → (a1.length ≤ 9223372036854775807 ∧ ∀ y ∈ a1, good78 y) → (Lit.int .i64 a2).wf = true → (Lit.int .i64 a3).wf = true → (Lit.int .i64 a4).wf = true → ∃ k, laws_FnExactMoveItem.f k a0 a1 a2 a3 a4 = some true
end Go.Proofs.Ytdbhelhoaciodaa.X
set_option linter.unusedVariables false
set_option linter.unusedSimpArgs false
namespace Go.Proofs.Ytdbhelhoaciodaa.X
open Go.RowKit Go.Proofs.YtdbhelhoaciodaaW.PrintWords Go.Proofs.Ytdbhelhoaciodaa.E
abbrev Item := S83
abbrev Box := S80
theorem l1In_eq (a l h : Int) : spec_l1In.f a l h = some (decide (l ≤ a ∧ a ≤ h)) := by
 unfold spec_l1In.f
 by_cases h1 : a ≥ l
 ·rw [if_pos h1]; congr 1; simp [h1]
 ·rw [if_neg h1]; congr 1; symm; simp; intro h2; omega
theorem within_eq (a l h : Int) : impl_within.f a l h = some (decide (l ≤ a ∧ a ≤ h)) := by
 unfold impl_within.f
 by_cases h1 : a ≥ l
 ·rw [if_pos h1]; congr 1; simp [h1]
 ·rw [if_neg h1]; congr 1; symm; simp; intro h2; omega
def shareB (a b : Int) : Bool := if ((a == 2) != (b == 2)) = true then false else !((decide (a = 3) && decide (b = 4)) || (decide (a = 4) && decide (b = 3)))
theorem l26Share_eq (a b : Int) : spec_l26Share.f a b = some (shareB a b) := by
 unfold spec_l26Share.f shareB
 by_cases h : ((a == 2) != (b == 2)) = true
 ·rw [if_pos h, if_pos h]
 ·rw [if_neg h, if_neg h]
  by_cases h3 : a = 3 <;> by_cases h4 : b = 4 <;> by_cases h5 : a = 4 <;> by_cases h6 : b = 3 <;> simp [h3, h4, h5, h6] <;> omega
theorem mayShare_eq (a b : Int) : impl_mayShare.f a b = some (shareB a b) := by
 rw [← l26Share_eq]; rfl
theorem shareB_comm (a b : Int) : shareB a b = shareB b a := by
 unfold shareB
 have e : ((a == 2) != (b == 2)) = ((b == 2) != (a == 2)) := by cases (a == 2) <;> cases (b == 2) <;> rfl
 rw [e]
 split
 ·rfl
 ·rw [Bool.or_comm]; congr 2 <;> rw [Bool.and_comm]
def itemAt (items : List Item) (i : Nat) : Bool :=
 decide (1 ≤ (items.getD i z83).f0 ∧ (items.getD i z83).f0 ≤ 9999) && decide (1 ≤ (items.getD i z83).f1 ∧ (items.getD i z83).f1 ≤ 4) && decide (1 ≤ (items.getD i z83).f2 ∧ (items.getD i z83).f2 ≤ 1000) &&
 decide (0 < i → (items.getD (i - 1) z83).f0 < (items.getD i z83).f0)
def itemsOk (items : List Item) : Bool := if (List.range items.length).all (itemAt items) = true then decide ((items.length : Int) ≤ 12) else false
theorem l26Items_ev (items : List Item) (hl : items.length ≤ 9223372036854775807) : Ev (fun k => spec_l26Items.f k items) (itemsOk items) := by
 refine ev_all0 (L := fun k i => spec_l26Items.l0 k items i) items.length (itemAt items) false (decide ((items.length : Int) ≤ 12)) (fun _ => Ev.step (fun k => rfl) (ev_neg (by omega) (ev_now rfl))) ?_ ?_
 ·intro i hi _ hc y hy
  simp only [itemAt, Bool.and_eq_true, decide_eq_true_eq] at hc
  obtain ⟨⟨⟨h1, h2⟩, h3⟩, h4⟩ := hc
  refine Ev.step (fun k => rfl) (ev_pos (by omega) (ev_pos (by omega) ?_))
  simp only [rd_T83, Int.toNat_natCast, l1In_eq]
  refine ev_pos (by simpa using h1) (ev_pos (by simpa using h2) (ev_pos (by simpa using h3) ?_))
  refine ev_ite (fun h0 => ?_) (fun h0 => ?_)
  ·have hp := wrap_pred (i := i) (by omega) (by omega)
   simp only [hp]
   refine ev_pos (by omega) (ev_pos (by omega) (ev_neg ?_ ?_))
   ·have := h4 (by omega); rw [Int.toNat_natCast]; omega
   ·rw [wrap_succ hi hl]; exact hy
  ·rw [wrap_succ hi hl]; exact hy
 ·intro i hi _ hc
  refine Ev.step (fun k => rfl) (ev_pos (by omega) (ev_pos (by omega) ?_))
  simp only [rd_T83, Int.toNat_natCast, l1In_eq]
  refine ev_ite (fun h1 => ?_) (fun _ => ev_now rfl)
  refine ev_ite (fun h2 => ?_) (fun _ => ev_now rfl)
  refine ev_ite (fun h3 => ?_) (fun _ => ev_now rfl)
  have h4 : ¬ (0 < i → (items.getD (i - 1) z83).f0 < (items.getD i z83).f0) := by
   intro h4
   have : itemAt items i = true := by
    simp only [itemAt, Bool.and_eq_true, h1, h2, h3, decide_eq_true_eq, true_and]
    exact h4
   rw [this] at hc; cases hc
  have h5 : 0 < i := by
   rcases Nat.eq_zero_or_pos i with h | h
   ·exact absurd (fun h' => by omega) h4
   ·exact h
  have hp := wrap_pred (i := i) (by omega) (by omega)
  refine ev_pos (by omega) ?_
  simp only [hp]
  refine ev_pos (by omega) (ev_pos (by omega) (ev_pos ?_ (ev_now rfl)))
  rw [Int.toNat_natCast]
  have : ¬ (items.getD (i - 1) z83).f0 < (items.getD i z83).f0 := fun h => h4 (fun _ => h)
  omega
theorem areItems_ev (items : List Item) (hl : items.length ≤ 9223372036854775807) : Ev (fun k => impl_areItems.f k items) (itemsOk items) := by
 refine ev_all0 (L := fun k i => impl_areItems.l0 k items items (items.length : Int) i) items.length (itemAt items) false (decide ((items.length : Int) ≤ 12)) (fun _ => Ev.step (fun k => rfl) (ev_neg (by omega) (ev_now rfl))) ?_ ?_
 ·intro i hi _ hc y hy
  simp only [itemAt, Bool.and_eq_true, decide_eq_true_eq] at hc
  obtain ⟨⟨⟨h1, h2⟩, h3⟩, h4⟩ := hc
  refine Ev.step (fun k => rfl) (ev_pos (by omega) (ev_pos (by omega) (ev_pos (by omega) ?_)))
  simp only [rd_T83, Int.toNat_natCast, impl_isBoxNumber.f, impl_isMaterial.f, within_eq]
  refine ev_pos (by simpa using h1) (ev_pos (by simpa using h2) (ev_pos (by simpa using h3) ?_))
  refine ev_ite (fun h0 => ?_) (fun h0 => ?_)
  ·have hp := wrap_pred (i := i) (by omega) (by omega)
   simp only [hp]
   refine ev_pos (by omega) (ev_pos (by omega) (ev_neg ?_ ?_))
   ·have := h4 (by omega); rw [Int.toNat_natCast]; omega
   ·rw [wrap_succ hi hl]; exact hy
  ·rw [wrap_succ hi hl]; exact hy
 ·intro i hi _ hc
  refine Ev.step (fun k => rfl) (ev_pos (by omega) (ev_pos (by omega) (ev_pos (by omega) ?_)))
  simp only [rd_T83, Int.toNat_natCast, impl_isBoxNumber.f, impl_isMaterial.f, within_eq]
  refine ev_ite (fun h1 => ?_) (fun _ => ev_now rfl)
  refine ev_ite (fun h2 => ?_) (fun _ => ev_now rfl)
  refine ev_ite (fun h3 => ?_) (fun _ => ev_now rfl)
  have h4 : ¬ (0 < i → (items.getD (i - 1) z83).f0 < (items.getD i z83).f0) := by
   intro h4
   have : itemAt items i = true := by
    simp only [itemAt, Bool.and_eq_true, decide_eq_true_eq]
    simp only [Option.bind_some, decide_eq_true_eq] at h1 h2 h3
    exact ⟨⟨⟨h1, h2⟩, h3⟩, h4⟩
   rw [this] at hc; cases hc
  have h5 : 0 < i := by
   rcases Nat.eq_zero_or_pos i with h | h
   ·exact absurd (fun h' => by omega) h4
   ·exact h
  have hp := wrap_pred (i := i) (by omega) (by omega)
  refine ev_pos (by omega) ?_
  simp only [hp]
  refine ev_pos (by omega) (ev_pos (by omega) (ev_pos ?_ (ev_now rfl)))
  rw [Int.toNat_natCast]
  have : ¬ (items.getD (i - 1) z83).f0 < (items.getD i z83).f0 := fun h => h4 (fun _ => h)
  omega
abbrev fnd (items : List Item) (n : Int) : Int := idxG (fun x : Item => x.f0 == n) 0 items
theorem l26Find_ev (items : List Item) (n : Int) (hl : items.length ≤ 9223372036854775807) : Ev (fun k => spec_l26Find.f k items n) (fnd items n) := by
 have h := ev_walk (L := fun k i => spec_l26Find.l0 k items n i) (G := fun i r => idxG (fun x : Item => x.f0 == n) i r) items (Ev.step (fun k => rfl) (ev_neg (by omega) (ev_now rfl))) ?step
 case step =>
  intro i x r hi hd hx hk
  refine Ev.step (fun k => rfl) (ev_pos (by omega) (ev_pos (by omega) ?_))
  simp only [rd_T83, Int.toNat_natCast, hx]
  by_cases c : x.f0 = n
  ·exact ev_pos c (ev_now (by simp [idxG, c]))
  ·refine ev_neg c ?_
   rw [wrap_succ hi hl]
   exact ev_cast hk (by simp [idxG, c])
 exact h
end Go.Proofs.Ytdbhelhoaciodaa.X
namespace Go.Proofs.Ytdbhelhoaciodaa.X
open Go.RowKit Go.Proofs.YtdbhelhoaciodaaW.PrintWords Go.Proofs.YtdbhelhoaciodaaW.PrintLast Go.Proofs.YtdbhelhoaciodaaW.PrintMore
attribute [local go_sem] max2_int min2_int max_two min_two max_three min_three max_four min_four
set_option linter.unusedVariables false
set_option linter.unusedSimpArgs false
attribute [-simp] ByteArray.size_append ByteArray.size_extract
attribute [-go_sem] ByteArray.size_append'
/-! ### slices_Index_int_int: function 134 -/
def slices_Index_int_int.l0 : Nat → List Int → Int → Int → Int → Option (Int)
 | 0, _, _, _, _ => none
 | k + 1, x0, x1, x7, x8 => if x8 < x7 then (if 0 ≤ x8 then (if x8 < (x0.length : Int) then (if x1 = (rd x0 x8) then (some x8) else (slices_Index_int_int.l0 k x0 x1 x7 (wrap64 (x8 + 1)))) else (none)) else (none)) else (some (-1))
def slices_Index_int_int.f (k : Nat) (l0 : List Int) (a1 : Int) : Option (Int) := slices_Index_int_int.l0 k l0 a1 (l0.length : Int) 0
set_option maxHeartbeats 8000000 in
set_option maxRecDepth 100000 in
theorem slices_Index_int_int.calls (k : Nat) (A0 : Option Addr) (c0 : Nat) (l0 : List Int) (a1 : Int) (r : Int) (w : World) (hr0 : Kd.C (Kd.int .i64) w A0 l0.length l0) (hc0 : l0.length ≤ c0) (h : slices_Index_int_int.f k l0 a1 = some r) :
  Calls Try.prog 134 #[.slice A0 l0.length c0, .int .i64 a1] w fun e w' => e = .returned (.int .i64 r) ∧ Drawn0 w w' := by
 (have HR0 := Aside0.mk hr0); (have HC0 := Aside0.mk hc0); clear hr0 hc0; (unfold slices_Index_int_int.f at h); (have H := h); clear h; (have H' := Aside0.mk H); clear H; (go_enter Try.func134, Try.ntmps134); (go_wp2); (go_loopg [8] k (fun kq v8 w' => ∃ (x8_1 : Int), v8 = .int .i64 x8_1 ∧ Aside0 (slices_Index_int_int.l0 kq l0 a1 (l0.length : Int) x8_1 = some r) ∧ Aside0 (kq ≤ k) ∧ Drawn0 w w'))
 case atStart => exact Q23
 case round =>
  (clear H'); (try clear c1); (try clear p2); (obtain ⟨x8_1, rfl, HA, HK1, ⟨m1, rfl⟩⟩ := hrel)
  cases gk with
  | zero => exact absurd HA.out (by simp [slices_Index_int_int.l0])
  | succ k1 =>
   (have H := HA.out); clear HA; (simp only [slices_Index_int_int.l0] at H); (by_cases c3 : x8_1 < (l0.length : Int))
   ·rw [if_pos c3] at H
    (have c3b0 := decide_eq_true c3); clear c3; (by_cases c4 : 0 ≤ x8_1)
    ·rw [if_pos c4] at H
     (have c4b0 := decide_eq_true c4); clear c4; (by_cases c5 : x8_1 < (l0.length : Int))
     ·rw [if_pos c5] at H
      (have c5b0 := decide_eq_true c5); clear c5; (by_cases c6 : a1 = (rd l0 x8_1))
      ·rw [if_pos c6] at H
       (have c6b0 : (a1 == (rd l0 x8_1)) = true := beq_iff_eq.mpr c6); (have c6b1 : (a1 != (rd l0 x8_1)) = false := bne_eq_false_iff_eq.mpr c6); clear c6; (obtain rfl := Option.some.inj H); (have p101 : 0 ≤ (x8_1 : Int) := odt); (have q101 : x8_1 < (l0.length : Int) := odt); (obtain ⟨ad101, e101, hx101_0⟩ := Kd.at_int HR0.out x8_1 p101 q101); (cases e101); (replace p101 := eq_true p101); (replace q101 := eq_true q101); (go_wp2); go_ret; (exact Q25)
      ·rw [if_neg c6] at H
       (have c6b0 : (a1 == (rd l0 x8_1)) = false := beq_eq_false_iff_ne.mpr c6); (have c6b1 : (a1 != (rd l0 x8_1)) = true := bne_iff_ne.mpr c6); (have H' := Aside0.mk H); clear H; (have p101 : 0 ≤ (x8_1 : Int) := odt); (have q101 : x8_1 < (l0.length : Int) := odt); (obtain ⟨ad101, e101, hx101_0⟩ := Kd.at_int HR0.out x8_1 p101 q101); (cases e101); (replace p101 := eq_true p101); (replace q101 := eq_true q101); (go_wp2); go_roundg k1
       case measure => have := HK1.out; omega
       case rel => exact ⟨(wrap64 (x8_1 + 1)), Q6, H', ⟨Q7⟩, Q81⟩
     ·rw [if_neg c5] at H
      exact Q8
    ·rw [if_neg c4] at H
     exact Q8
   ·rw [if_neg c3] at H
    (have c3b0 := decide_eq_false c3); clear c3; (obtain rfl := Option.some.inj H); (go_wp2); go_ret; (exact Q25)
/-! ### slices_Contains_int_int: function 101 -/
def slices_Contains_int_int.f (k : Nat) (l0 : List Int) (a1 : Int) : Option (Bool) := (slices_Index_int_int.f k l0 a1).bind fun t101 => (some (decide (t101 ≥ 0)))
set_option maxHeartbeats 8000000 in
set_option maxRecDepth 100000 in
theorem slices_Contains_int_int.calls (k : Nat) (A0 : Option Addr) (c0 : Nat) (l0 : List Int) (a1 : Int) (r : Bool) (w : World) (hr0 : Kd.C (Kd.int .i64) w A0 l0.length l0) (hc0 : l0.length ≤ c0) (h : slices_Contains_int_int.f k l0 a1 = some r) :
  Calls Try.prog 101 #[.slice A0 l0.length c0, .int .i64 a1] w fun e w' => e = .returned (.bool r) ∧ Drawn0 w w' := by
 (have HR0 := Aside0.mk hr0); (have HC0 := Aside0.mk hc0); clear hr0 hc0; (unfold slices_Contains_int_int.f at h); (have H := h); clear h; (replace H := obS H); (obtain ⟨t101, A3, H⟩ := H); (obtain rfl := Option.some.inj H); (go_enter Try.func101, Try.ntmps101); (go_wp2_with (first | ((with_reducible refine gate_callee (f := 134) rfl ?_); refine gL (some 7) Try.func134 #[.slice A0 l0.length c0, .int .i64 a1] ?_; (with_reducible refine (slices_Index_int_int.calls k _ _ l0 a1 t101 _ ?side1 ?side2 A3.out).mono ?_); (case side1 => exact cI HR0.out); (case side2 => exact HC0.out); rintro e w' ⟨rfl, ⟨nd, rfl⟩⟩; refine ⟨_, rfl, ?_⟩))); go_ret; (exact Q25)
/-! ### impl_BoxOf: function 54 -/
def impl_BoxOf.l0 : Nat → Int → List (S80) → Int → Int → Option (Int × Bool)
 | 0, _, _, _, _ => none
 | k + 1, x1, x8, x9, x10 => if x10 < x9 then (if 0 ≤ x10 then (if x10 < (x8.length : Int) then ((slices_Contains_int_int.f k ((rd_T80 x8 x10).f1) x1).bind fun t103 => (if t103 = true then (some ((rd_T80 x8 x10).f0, true)) else (impl_BoxOf.l0 k x1 x8 x9 (wrap64 (x10 + 1))))) else (none)) else (none)) else (some (0, false))
def impl_BoxOf.f (k : Nat) (l0 : List (S80)) (a1 : Int) : Option (Int × Bool) := impl_BoxOf.l0 k a1 l0 (l0.length : Int) 0
set_option maxHeartbeats 8000000 in
set_option maxRecDepth 100000 in
theorem impl_BoxOf.calls (k : Nat) (A0 : Option Addr) (c0 : Nat) (l0 : List (S80)) (a1 : Int) (r1 : Int) (r2 : Bool) (w : World) (hr0 : Kd.C k80 w A0 l0.length l0) (hc0 : l0.length ≤ c0) (h : impl_BoxOf.f k l0 a1 = some (r1, r2)) :
  Calls Try.prog 54 #[.slice A0 l0.length c0, .int .i64 a1] w fun e w' => e = .returned (.tuple #[.int .i64 r1, .bool r2]) ∧ Below w.heap.size w w' := by
 (have hu80 := Try.underlying80); (have HR0 := Aside0.mk hr0); (have HC0 := Aside0.mk hc0); clear hr0 hc0; (have HB := Aside0.mk (Below.refl w.heap.size w)); (unfold impl_BoxOf.f at h); (have H := h); clear h; (have H' := Aside0.mk H); clear H; (go_enter Try.func54, Try.ntmps54); (go_wp2); (go_loopg [10] k (fun kq v10 w' => ∃ (x10_1 : Int), v10 = .int .i64 x10_1 ∧ Aside0 (impl_BoxOf.l0 kq a1 l0 (l0.length : Int) x10_1 = some (r1, r2)) ∧ Aside0 (kq ≤ k) ∧ Aside0 (Below w.heap.size w w')))
 case atStart => exact Q21
 case round =>
  (clear H'); (try clear p2); (obtain ⟨x10_1, rfl, HA, HK1, HB⟩ := hrel)
  cases gk with
  | zero => exact absurd HA.out (by simp [impl_BoxOf.l0])
  | succ k1 =>
   (have H := HA.out); clear HA; (simp only [impl_BoxOf.l0] at H); (by_cases c3 : x10_1 < (l0.length : Int))
   ·rw [if_pos c3] at H
    (have c3b0 := decide_eq_true c3); clear c3; (by_cases c4 : 0 ≤ x10_1)
    ·rw [if_pos c4] at H
     (have c4b0 := decide_eq_true c4); clear c4; (by_cases c5 : x10_1 < (l0.length : Int))
     ·rw [if_pos c5] at H
      (have c5b0 := decide_eq_true c5); clear c5; (replace H := obS H); (obtain ⟨t103, A6, H⟩ := H); (by_cases c7 : t103 = true)
      ·subst c7
       (rw [if_pos rfl] at H); (simp only [Option.some.injEq, Prod.mk.injEq] at H); (obtain ⟨rfl, rfl⟩ := H); (have p101 : 0 ≤ (x10_1 : Int) := of_decide_eq_true Q35); (have q101 : x10_1 < (l0.length : Int) := of_decide_eq_true Q35); (obtain ⟨ad101, A101_1, c101_1, e101, hx101_0, hx101_1, hl101_1, hi101_1⟩ := at_T80 HR0.out x10_1 p101 q101); (cases e101); (replace hx101_0 := (HB.out.cell (bltc w _ hx101_0)).trans hx101_0); (replace hx101_1 := (HB.out.cell (bltc w _ hx101_1)).trans hx101_1); (have HR101_1 := Aside0.mk hi101_1); (have HC101_1 := Aside0.mk hl101_1); clear hi101_1 hl101_1; (replace p101 := eq_true p101); (replace q101 := eq_true q101); (go_wp2_with (first | ((with_reducible refine gate_dst (N := 7) rfl ?_); refine box_event ?hg (N := 7) ?hd (cs := #[.int .i64 0, .slice none 0 0]) (t := 80) ?hr ?_; (case hd => rfl); (case hg => rfl); (case hr => first | (go_simp; done) | (go_simp; rfl)); intro gb102 hg w8 hbox hb; have hB_ := bz Q10 hb; have n0_ := Aside0.mk (below_step hB_ hb); have n1_ := Aside0.mk (hbox); have n2_ := Aside0.mk ((Q11 : w.heap.size ≤ gb102)); have n3_ := n2_; clear HB; have HB := n0_; have BK102 := n1_; have GW102 := n2_; have GE102 := n3_; clear n0_ n1_ n2_ n3_ hB_ hb hbox hg; have hcz9_0 := cz BK102.out 0; have hcz9_1 := cz BK102.out 1; have hfz9_0 := blk_frozen BK102.out 0; have hfz9_1 := blk_frozen BK102.out 1) | ((with_reducible refine gate_callee (f := 101) rfl ?_); refine gL (some 17) Try.func101 #[.slice A101_1 ((rd_T80 l0 x10_1).f1).length c101_1, .int .i64 a1] ?_; (with_reducible refine (slices_Contains_int_int.calls k1 _ _ ((rd_T80 l0 x10_1).f1) a1 true _ ?side1 ?side2 A6.out).mono ?_); (case side1 => exact Q150); (case side2 => exact Q28); rintro e w' ⟨rfl, ⟨nd, rfl⟩⟩; refine ⟨_, rfl, ?_⟩))); (go_ret2); (exact Q90)
      ·replace c7 := Bool.eq_false_iff.mpr c7
       subst c7; (rw [if_neg (show ¬ (false = true) by decide)] at H); (have H' := Aside0.mk H); clear H; (have p101 : 0 ≤ (x10_1 : Int) := of_decide_eq_true Q35); (have q101 : x10_1 < (l0.length : Int) := of_decide_eq_true Q35); (obtain ⟨ad101, A101_1, c101_1, e101, hx101_0, hx101_1, hl101_1, hi101_1⟩ := at_T80 HR0.out x10_1 p101 q101); (cases e101); (replace hx101_0 := (HB.out.cell (bltc w _ hx101_0)).trans hx101_0); (replace hx101_1 := (HB.out.cell (bltc w _ hx101_1)).trans hx101_1); (have HR101_1 := Aside0.mk hi101_1); (have HC101_1 := Aside0.mk hl101_1); clear hi101_1 hl101_1; (replace p101 := eq_true p101); (replace q101 := eq_true q101); (go_wp2_with (first | ((with_reducible refine gate_dst (N := 7) rfl ?_); refine box_event ?hg (N := 7) ?hd (cs := #[.int .i64 0, .slice none 0 0]) (t := 80) ?hr ?_; (case hd => rfl); (case hg => rfl); (case hr => first | (go_simp; done) | (go_simp; rfl)); intro gb102 hg w10 hbox hb; have hB_ := bz Q10 hb; have n0_ := Aside0.mk (below_step hB_ hb); have n1_ := Aside0.mk (hbox); have n2_ := Aside0.mk ((Q11 : w.heap.size ≤ gb102)); have n3_ := n2_; clear HB; have HB := n0_; have BK102 := n1_; have GW102 := n2_; have GE102 := n3_; clear n0_ n1_ n2_ n3_ hB_ hb hbox hg; have hcz11_0 := cz BK102.out 0; have hcz11_1 := cz BK102.out 1; have hfz11_0 := blk_frozen BK102.out 0; have hfz11_1 := blk_frozen BK102.out 1) | ((with_reducible refine gate_callee (f := 101) rfl ?_); refine gL (some 17) Try.func101 #[.slice A101_1 ((rd_T80 l0 x10_1).f1).length c101_1, .int .i64 a1] ?_; (with_reducible refine (slices_Contains_int_int.calls k1 _ _ ((rd_T80 l0 x10_1).f1) a1 false _ ?side1 ?side2 A6.out).mono ?_); (case side1 => exact Q150); (case side2 => exact Q28); rintro e w' ⟨rfl, ⟨nd, rfl⟩⟩; refine ⟨_, rfl, ?_⟩))); go_roundg k1
       case measure => have := HK1.out; omega
       case rel => exact ⟨(wrap64 (x10_1 + 1)), Q6, H', ⟨Q7⟩, ⟨Q88⟩⟩
     ·rw [if_neg c5] at H
      exact Q8
    ·rw [if_neg c4] at H
     exact Q8
   ·rw [if_neg c3] at H
    (have c3b0 := decide_eq_false c3); clear c3; (simp only [Option.some.injEq, Prod.mk.injEq] at H); (obtain ⟨rfl, rfl⟩ := H); (go_wp2); (go_ret2); (exact Q18)
end Go.Proofs.Ytdbhelhoaciodaa.X
set_option linter.unusedVariables false
set_option linter.unusedSimpArgs false
namespace Go.Proofs.Ytdbhelhoaciodaa.X
open Go.RowKit Go.Proofs.YtdbhelhoaciodaaW.PrintWords Go.Proofs.Ytdbhelhoaciodaa.E
theorem l1Has_ev (l : List Int) (n : Int) (hl : l.length ≤ 9223372036854775807) : Ev (fun k => spec_l1Has.f k l n) (decide (n ∈ l)) := by
 have h := ev_walk (L := fun k i => spec_l1Has.l0 k l n i) (G := fun _ r => decide (n ∈ r)) l (Ev.step (fun k => rfl) (ev_neg (by omega) (ev_now (by simp)))) ?step
 case step =>
  intro i x r hi hd hx hk
  refine Ev.step (fun k => rfl) (ev_pos (by omega) (ev_pos (by omega) ?_))
  simp only [rd, Int.toNat_natCast, hx]
  by_cases c : x = n
  ·exact ev_pos c (ev_now (by simp [c]))
  ·refine ev_neg c ?_
   rw [wrap_succ hi hl]
   have c' : ¬ n = x := fun h => c h.symm
   exact ev_cast hk (by simp [c'])
 exact h
theorem l26Box_ev (bs : List S80) (n : Int) (hl : bs.length ≤ 9223372036854775807) (hi : ∀ b ∈ bs, b.f1.length ≤ 9223372036854775807) : Ev (fun k => spec_l26Box.f k bs n) (idxG (fun b => decide (n ∈ b.f1)) 0 bs) := by
 have h := ev_walk (L := fun k i => spec_l26Box.l0 k bs n i) (G := fun i r => idxG (fun b : S80 => decide (n ∈ b.f1)) i r) bs (Ev.step (fun k => rfl) (ev_neg (by omega) (ev_now rfl))) ?step
 case step =>
  intro i x r hlt hd hx hk
  refine Ev.step (fun k => rfl) (ev_pos (by omega) (ev_pos (by omega) ?_))
  simp only [rd_T80, Int.toNat_natCast, hx]
  have hm : x ∈ bs := List.mem_of_getElem? (drop_cons hd x).2.2.2
  refine Ev.bind (l1Has_ev x.f1 n (hi x hm)) ?_
  by_cases c : n ∈ x.f1
  ·exact ev_pos (by simp [c]) (ev_now (by simp [idxG, c]))
  ·refine ev_neg (by simp [c]) ?_
   rw [wrap_succ hlt hl]
   exact ev_cast hk (by simp [idxG, c])
 exact h
end Go.Proofs.Ytdbhelhoaciodaa.X
set_option linter.unusedVariables false
set_option linter.unusedSimpArgs false
namespace Go.Proofs.Ytdbhelhoaciodaa.X
open Go.RowKit Go.Proofs.YtdbhelhoaciodaaW.PrintWords Go.Proofs.Ytdbhelhoaciodaa.E
abbrev wI (items : List Item) (i : Nat) : Int := (items.getD i z83).f2
abbrev mI (items : List Item) (i : Nat) : Int := (items.getD i z83).f1
def Sane (items : List Item) : Prop := items.length ≤ 12 ∧ ∀ i, i < items.length → itemAt items i = true
theorem sane_of {items : List Item} (h : itemsOk items = true) : Sane items := by
 unfold itemsOk at h
 by_cases c : (List.range items.length).all (itemAt items) = true
 ·rw [if_pos c] at h
  simp at h
  exact ⟨by omega, all_range.1 c⟩
 ·rw [if_neg c] at h; cases h
theorem Sane.weight {items : List Item} (h : Sane items) {i : Nat} (hi : i < items.length) : 1 ≤ wI items i ∧ wI items i ≤ 1000 := by
 have := h.2 i hi
 simp only [itemAt, Bool.and_eq_true, decide_eq_true_eq] at this
 exact this.1.2
theorem Sane.num {items : List Item} (h : Sane items) {i : Nat} (hi : i < items.length) : 1 ≤ (items.getD i z83).f0 ∧ (items.getD i z83).f0 ≤ 9999 := by
 have := h.2 i hi
 simp only [itemAt, Bool.and_eq_true, decide_eq_true_eq] at this
 exact this.1.1.1
theorem Sane.rise {items : List Item} (h : Sane items) : ∀ {j i : Nat}, i < items.length → j < i → (items.getD j z83).f0 < (items.getD i z83).f0 := by
 intro j i hi hj
 induction i with
 | zero => omega
 | succ i ih =>
  have := h.2 (i + 1) hi
  simp only [itemAt, Bool.and_eq_true, decide_eq_true_eq] at this
  have h1 := this.2 (by omega)
  simp only [Nat.add_sub_cancel] at h1
  by_cases e : j = i
  ·subst e; exact h1
  ·have := ih (by omega) (by omega)
   omega
def Places (items : List Item) (l : List Int) : Prop := ∀ x ∈ l, 0 ≤ x ∧ x < (items.length : Int)
abbrev at_ (l : List Int) (m : Nat) : Nat := (l.getD m 0).toNat
theorem Places.get {items : List Item} {l : List Int} (h : Places items l) {m : Nat} (hm : m < l.length) : 0 ≤ l.getD m 0 ∧ l.getD m 0 < (items.length : Int) ∧ at_ l m < items.length := by
 have := h _ (List.getElem_mem hm)
 rw [at_, getD_in hm]
 omega
def fitsI (items : List Item) (inside : List Int) (i : Nat) (cap : Int) : Bool :=
 if (List.range inside.length).all (fun m => shareB (mI items (at_ inside m)) (mI items i)) = true then decide (wI items i + sumTo (fun m => wI items (at_ inside m)) inside.length ≤ cap) else false
theorem fits_ev (items : List Item) (inside : List Int) (i : Nat) (cap : Int) (hs : Sane items) (hp : Places items inside) (hl : inside.length ≤ 1048576) (hi : i < items.length) :
  Ev (fun k => impl_fits.f k items inside i cap) (fitsI items inside i cap) := by
 unfold impl_fits.f
 refine ev_pos (by omega) (ev_pos (by omega) ?_)
 simp only [rd_T83, Int.toNat_natCast]
 have hb : ∀ m, m ≤ inside.length → 0 ≤ sumTo (fun m => wI items (at_ inside m)) m ∧ sumTo (fun m => wI items (at_ inside m)) m ≤ 1000 * m :=
  fun m hm => sumTo_bound (fun j hj => by have := hs.weight (hp.get (show j < inside.length by omega)).2.2; omega)
 have hw := hs.weight hi
 have h := ev_all (L := fun k (s : Int) j => impl_fits.l0 k items i cap s inside (inside.length : Int) j) inside.length (fun m => wI items i + sumTo (fun m => wI items (at_ inside m)) m)
  (fun m => shareB (mI items (at_ inside m)) (mI items i)) false (decide (wI items i + sumTo (fun m => wI items (at_ inside m)) inside.length ≤ cap))
  (fun _ => Ev.step (fun k => rfl) (ev_neg (by omega) (ev_now rfl))) ?h1 ?h2
 case h1 =>
  intro m hm _ hc y hy
  have g := hp.get hm
  refine Ev.step (fun k => rfl) (ev_pos (by omega) (ev_pos (by omega) (ev_pos (by omega) ?_)))
  simp only [rd_nat, rd_T83, Int.toNat_natCast, mayShare_eq]
  refine ev_pos (by omega) (ev_pos (by omega) (ev_pos (by omega) (ev_pos (by omega) (ev_pos hc ?_))))
  have h1 := hb m (by omega)
  have h2 : 1 ≤ (items.getD (inside.getD m 0).toNat z83).f2 ∧ (items.getD (inside.getD m 0).toNat z83).f2 ≤ 1000 := hs.weight g.2.2
  rw [show wrap64 (wI items i + sumTo (fun m => wI items (at_ inside m)) m + (items.getD (inside.getD m 0).toNat z83).f2) = wI items i + sumTo (fun m => wI items (at_ inside m)) (m + 1) from by
   rw [wrap_id (by omega) (by omega), sumTo, Int.add_assoc], wrap_succ hm (by omega)]
  exact hy
 case h2 =>
  intro m hm _ hc
  have g := hp.get hm
  refine Ev.step (fun k => rfl) (ev_pos (by omega) (ev_pos (by omega) (ev_pos (by omega) ?_)))
  simp only [rd_nat, rd_T83, Int.toNat_natCast, mayShare_eq]
  refine ev_pos (by omega) (ev_pos (by omega) (ev_pos (by omega) (ev_pos (by omega) (ev_neg ?_ (ev_now rfl)))))
  show ¬ shareB (mI items (at_ inside m)) (mI items i) = true
  rw [hc]; simp
 refine ev_cast (r := _) ?_ rfl
 have h0 : wI items i + sumTo (fun m => wI items (at_ inside m)) 0 = (items.getD i z83).f2 := by rw [sumTo, Int.add_zero]
 rw [h0] at h
 exact h
def Known (items : List Item) (l : List Int) : Prop := ∀ n ∈ l, 0 ≤ fnd items n
theorem fnd_range (items : List Item) (n : Int) (h : 0 ≤ fnd items n) : fnd items n < (items.length : Int) ∧ (items.getD (fnd items n).toNat z83).f0 = n := by
 rcases idxG_spec (fun x : Item => x.f0 == n) items 0 with ⟨h1, h2⟩ | ⟨j, x, h1, h2, h3, h4, h5, h6⟩
 ·rw [fnd, h1] at h; omega
 ·rw [fnd, h2]
  refine ⟨by omega, ?_⟩
  simp only [Nat.zero_add, Int.toNat_natCast]
  rw [List.getD_eq_getElem?_getD, h3]
  simpa using h4
abbrev pl (items : List Item) (l : List Int) (m : Nat) : Nat := (fnd items (l.getD m 0)).toNat
theorem Known.get {items : List Item} {l : List Int} (h : Known items l) {m : Nat} (hm : m < l.length) : 0 ≤ fnd items (l.getD m 0) ∧ fnd items (l.getD m 0) < (items.length : Int) ∧ pl items l m < items.length := by
 have h1 := h _ (List.getElem_mem hm)
 rw [← getD_in hm 0] at h1
 have h2 := (fnd_range items _ h1).1
 refine ⟨h1, h2, ?_⟩
 show (fnd items (l.getD m 0)).toNat < items.length
 omega
def pairOk (items : List Item) (l : List Int) (i : Nat) : Bool := (List.range i).all (fun k => shareB (mI items (pl items l i)) (mI items (pl items l k)))
def fitsL (items : List Item) (l : List Int) (cap : Int) : Bool := if (List.range l.length).all (pairOk items l) = true then decide (sumTo (fun m => wI items (pl items l m)) l.length ≤ cap) else false
theorem l26Fits_ev (items : List Item) (l : List Int) (cap : Int) (hs : Sane items) (hk : Known items l) (hl : l.length ≤ 1048576) : Ev (fun k => spec_l26Fits.f k items l cap) (fitsL items l cap) := by
 have hli : items.length ≤ 9223372036854775807 := by have := hs.1; omega
 have hb : ∀ m, m ≤ l.length → 0 ≤ sumTo (fun m => wI items (pl items l m)) m ∧ sumTo (fun m => wI items (pl items l m)) m ≤ 1000 * m :=
  fun m hm => sumTo_bound (fun j hj => by have := hs.weight (hk.get (show j < l.length by omega)).2.2; omega)
 have inner : ∀ (i : Nat) (s : Int) (a b c : Int), i < l.length → b = mI items (pl items l i) → ∀ y, (pairOk items l i = true → Ev (fun k => spec_l26Fits.l0 k items l cap s ((i + 1 : Nat) : Int)) y) → (pairOk items l i = false → y = false) →
   Ev (fun k => spec_l26Fits.l1 k items l cap s i 0 a b c) y := by
  intro i s a b c hi hbm y hy hn
  have h := ev_all0 (L := fun k j => spec_l26Fits.l1 k items l cap s i j a b c) i (fun k => shareB (mI items (pl items l i)) (mI items (pl items l k))) false y ?h0 ?h1 ?h2
  case h0 =>
   intro hC
   refine Ev.step (fun k => rfl) (ev_neg (by omega) ?_)
   rw [wrap_succ hi (by omega)]
   exact hy (all_range.2 hC)
  case h1 =>
   intro m hm _ hc z hz
   have g := hk.get (show m < l.length by omega)
   refine Ev.step (fun k => rfl) (ev_pos (by omega) (ev_pos (by omega) (ev_pos (by omega) ?_)))
   simp only [rd_nat, rd_T83, l26Share_eq]
   refine Ev.bind (l26Find_ev items _ hli) (ev_pos (by omega) (ev_pos (by omega) (ev_pos ?_ ?_)))
   ·rw [hbm]; exact hc
   ·rw [wrap_succ hm (by omega)]; exact hz
  case h2 =>
   intro m hm _ hc
   have g := hk.get (show m < l.length by omega)
   refine Ev.step (fun k => rfl) (ev_pos (by omega) (ev_pos (by omega) (ev_pos (by omega) ?_)))
   simp only [rd_nat, rd_T83, l26Share_eq]
   refine Ev.bind (l26Find_ev items _ hli) (ev_pos (by omega) (ev_pos (by omega) (ev_neg ?_ (ev_now rfl))))
   rw [hbm]
   show ¬ shareB (mI items (pl items l i)) (mI items (pl items l m)) = true
   rw [hc]; simp
  refine ev_cast h ?_
  by_cases c : (List.range i).all (fun k => shareB (mI items (pl items l i)) (mI items (pl items l k))) = true
  ·rw [if_pos c]
  ·rw [if_neg c]; exact (hn (by unfold pairOk; simpa using c)).symm
 have h := ev_all (L := fun k (s : Int) j => spec_l26Fits.l0 k items l cap s j) l.length (fun m => sumTo (fun m => wI items (pl items l m)) m) (pairOk items l) false (decide (sumTo (fun m => wI items (pl items l m)) l.length ≤ cap))
  (fun _ => Ev.step (fun k => rfl) (ev_neg (by omega) (ev_now rfl))) ?h1 ?h2
 case h1 =>
  intro m hm _ hc y hy
  have g := hk.get hm
  refine Ev.step (fun k => rfl) (ev_pos (by omega) (ev_pos (by omega) ?_))
  simp only [rd_nat, rd_T83]
  refine Ev.bind (l26Find_ev items _ hli) (ev_pos (by omega) (ev_pos (by omega) ?_))
  have h1 := hb m (by omega)
  have h2 : 1 ≤ (items.getD (fnd items (l.getD m 0)).toNat z83).f2 ∧ (items.getD (fnd items (l.getD m 0)).toNat z83).f2 ≤ 1000 := hs.weight g.2.2
  rw [show wrap64 (sumTo (fun m => wI items (pl items l m)) m + (items.getD (fnd items (l.getD m 0)).toNat z83).f2) = sumTo (fun m => wI items (pl items l m)) (m + 1) from by
   rw [wrap_id (by omega) (by omega)]; rfl]
  exact inner m _ _ _ _ hm rfl _ (fun _ => hy) (fun h => by rw [hc] at h; cases h)
 case h2 =>
  intro m hm _ hc
  have g := hk.get hm
  refine Ev.step (fun k => rfl) (ev_pos (by omega) (ev_pos (by omega) ?_))
  simp only [rd_nat, rd_T83]
  refine Ev.bind (l26Find_ev items _ hli) (ev_pos (by omega) (ev_pos (by omega) ?_))
  exact inner m _ _ _ _ hm rfl _ (fun h => by rw [hc] at h; cases h) (fun _ => rfl)
 exact h
def riseAt (l : List Int) (a b : Int) (i : Nat) : Bool := decide (a ≤ l.getD i 0 ∧ l.getD i 0 ≤ b) && decide (0 < i → l.getD (i - 1) 0 < l.getD i 0)
def rising (l : List Int) (a b : Int) : Bool := (List.range l.length).all (riseAt l a b)
theorem l1Rising_ev (l : List Int) (a b : Int) (hl : l.length ≤ 9223372036854775807) : Ev (fun k => spec_l1Rising.f k l a b) (rising l a b) := by
 have h := ev_all0 (L := fun k i => spec_l1Rising.l0 k l a b i) l.length (riseAt l a b) false true (fun _ => Ev.step (fun k => rfl) (ev_neg (by omega) (ev_now rfl))) ?h1 ?h2
 case h1 =>
  intro i hi _ hc y hy
  simp only [riseAt, Bool.and_eq_true, decide_eq_true_eq] at hc
  refine Ev.step (fun k => rfl) (ev_pos (by omega) (ev_pos (by omega) ?_))
  simp only [rd_nat, l1In_eq]
  refine ev_pos (by simpa using hc.1) ?_
  refine ev_ite (fun h0 => ?_) (fun h0 => ?_)
  ·have hp := wrap_pred (i := i) (by omega) (by omega)
   simp only [hp, rd_nat]
   have := hc.2 (by omega)
   refine ev_pos (by omega) (ev_pos (by omega) (ev_neg (by omega) ?_))
   rw [wrap_succ hi hl]; exact hy
  ·rw [wrap_succ hi hl]; exact hy
 case h2 =>
  intro i hi _ hc
  refine Ev.step (fun k => rfl) (ev_pos (by omega) (ev_pos (by omega) ?_))
  simp only [rd_nat, l1In_eq]
  refine ev_ite (fun h1 => ?_) (fun _ => ev_now rfl)
  have h4 : ¬ (0 < i → l.getD (i - 1) 0 < l.getD i 0) := by
   intro h4
   have : riseAt l a b i = true := by
    simp only [riseAt, Bool.and_eq_true, decide_eq_true_eq]
    exact ⟨by simpa using h1, h4⟩
   rw [this] at hc; cases hc
  have h5 : 0 < i := by
   rcases Nat.eq_zero_or_pos i with h | h
   ·exact absurd (fun h' => by omega) h4
   ·exact h
  have hp := wrap_pred (i := i) (by omega) (by omega)
  refine ev_pos (by omega) ?_
  simp only [hp, rd_nat]
  have : ¬ l.getD (i - 1) 0 < l.getD i 0 := fun h => h4 (fun _ => h)
  exact ev_pos (by omega) (ev_pos (by omega) (ev_pos (by omega) (ev_now rfl)))
 refine ev_cast h ?_
 unfold rising
 cases (List.range l.length).all (riseAt l a b) <;> rfl
end Go.Proofs.Ytdbhelhoaciodaa.X
set_option linter.unusedVariables false
set_option linter.unusedSimpArgs false
namespace Go.Proofs.Ytdbhelhoaciodaa.X
open Go.RowKit Go.Proofs.YtdbhelhoaciodaaW.PrintWords Go.Proofs.Ytdbhelhoaciodaa.E
abbrev bx (boxes : List Box) (i : Nat) : Box := boxes.getD i z80
def numAt (boxes : List Box) (i : Nat) : Bool := decide (1 ≤ (bx boxes i).f0 ∧ (bx boxes i).f0 ≤ 9999) && decide (0 < i → (bx boxes (i - 1)).f0 < (bx boxes i).f0)
abbrev boxIdx (boxes : List Box) (n : Int) : Int := idxG (fun b : Box => decide (n ∈ b.f1)) 0 boxes
def inBox (items : List Item) (boxes : List Box) (i k : Nat) : Bool := decide (0 ≤ fnd items ((bx boxes i).f1.getD k 0)) && decide (boxIdx boxes ((bx boxes i).f1.getD k 0) = (i : Int))
def boxS (items : List Item) (boxes : List Box) (cap : Int) (i : Nat) : Bool :=
 numAt boxes i && rising (bx boxes i).f1 1 9999 && (List.range (bx boxes i).f1.length).all (inBox items boxes i) && fitsL items (bx boxes i).f1 cap
def prevL (boxes : List Box) (i : Nat) : List Int := (boxes.take i).flatMap (fun b => b.f1)
theorem prevL_succ {boxes : List Box} {i : Nat} (h : i < boxes.length) : prevL boxes (i + 1) = prevL boxes i ++ (bx boxes i).f1 := by
 unfold prevL
 rw [List.take_succ_eq_append_getElem h, List.flatMap_append]
 simp [bx, List.getD_eq_getElem?_getD, List.getElem?_eq_getElem h]
def small (boxes : List Box) : Prop := boxes.length + (boxes.map (fun b => b.f1.length)).sum ≤ 1048576
theorem small.box {boxes : List Box} (h : small boxes) {i : Nat} (hi : i < boxes.length) : (bx boxes i).f1.length ≤ 1048576 := by
 have := le_sum (f := fun b : Box => b.f1.length) (List.getElem_mem hi)
 unfold small at h
 rw [bx, getD_in hi]
 omega
theorem small.prev {boxes : List Box} (h : small boxes) (i : Nat) : (prevL boxes i).length ≤ 1048576 := by
 have h1 : ∀ (l : List Box), (l.flatMap (fun b => b.f1)).length = (l.map (fun b => b.f1.length)).sum := by
  intro l
  induction l with
  | nil => rfl
  | cons a r ih => simp [ih]
 have h2 : ∀ (l : List Box) (n : Nat), ((l.take n).map (fun b => b.f1.length)).sum ≤ (l.map (fun b => b.f1.length)).sum := by
  intro l
  induction l with
  | nil => intro n; simp
  | cons a r ih =>
   intro n
   cases n with
   | zero => simp
   | succ n => simp only [List.take_succ_cons, List.map_cons, List.sum_cons]; have := ih n; omega
 unfold prevL
 rw [h1]
 have := h2 boxes i
 unfold small at h
 omega
def goodR (items : List Item) (boxes : List Box) (cap : Int) : Bool := if (List.range boxes.length).all (boxS items boxes cap) = true then (((prevL boxes boxes.length).length : Int) == (items.length : Int)) else false
def good (items : List Item) (boxes : List Box) (cap : Int) : Bool := itemsOk items && decide ((boxes.length : Int) ≤ 12) && decide (1 ≤ cap ∧ cap ≤ 10000) && goodR items boxes cap
theorem known_of {items : List Item} {boxes : List Box} {i : Nat} (h : (List.range (bx boxes i).f1.length).all (inBox items boxes i) = true) : Known items (bx boxes i).f1 := by
 intro n hn
 obtain ⟨k, hk, rfl⟩ := List.getElem_of_mem hn
 have := all_range.1 h k hk
 simp only [inBox, Bool.and_eq_true, decide_eq_true_eq] at this
 rw [getD_in hk] at this
 exact this.1
theorem specGood_ev (items : List Item) (boxes : List Box) (cap : Int) (hl : items.length ≤ 9223372036854775807) (hb : small boxes) : Ev (fun k => spec_l26Good.f k items boxes cap) (good items boxes cap) := by
 unfold spec_l26Good.f
 refine Ev.bind (l26Items_ev items hl) ?_
 have hbl : boxes.length ≤ 1048576 := by unfold small at hb; omega
 have stop : ∀ (b : Bool), b = false → Ev (fun k => spec_l26Good.j0 k items boxes cap true) b := fun b hb => hb ▸ Ev.step (fun k => rfl) (ev_now rfl)
 by_cases c1 : itemsOk items = true
 case neg =>
  exact ev_neg c1 (stop _ (by unfold good; simp [c1]))
 refine ev_pos c1 ?_
 by_cases c2 : (boxes.length : Int) > 12
 ·exact ev_pos c2 (stop _ (by unfold good; rw [decide_eq_false (by omega)]; simp))
 refine ev_neg c2 ?_
 simp only [l1In_eq]
 by_cases c3 : 1 ≤ cap ∧ cap ≤ 10000
 case neg =>
  have e : (!decide (1 ≤ cap ∧ cap ≤ 10000)) = true := by simp [c3]
  show Ev (fun k => spec_l26Good.j0 k items boxes cap (!decide (1 ≤ cap ∧ cap ≤ 10000))) _
  rw [e]
  exact stop _ (by unfold good; rw [decide_eq_false c3]; simp)
 have hs := sane_of c1
 have main : Ev (fun k => spec_l26Good.l0 k items boxes cap 0 0) (goodR items boxes cap) := by
  have h := ev_all (L := fun k (s : Int) i => spec_l26Good.l0 k items boxes cap s i) boxes.length (fun i => ((prevL boxes i).length : Int)) (boxS items boxes cap) false (((prevL boxes boxes.length).length : Int) == (items.length : Int))
   (fun _ => Ev.step (fun k => rfl) (ev_neg (by omega) (ev_now rfl))) ?h1 ?h2
  case h1 =>
   intro i hi _ hc y hy
   simp only [boxS, Bool.and_eq_true] at hc
   obtain ⟨⟨⟨hn, hr⟩, ha⟩, hf⟩ := hc
   have hk := known_of ha
   have hbi := hb.box hi
   simp only [numAt, Bool.and_eq_true, decide_eq_true_eq] at hn
   have tail : Ev (fun k => spec_l26Good.j2 k items boxes cap ((prevL boxes i).length : Int) i (!rising (bx boxes i).f1 1 9999) (bx boxes i).f0 (bx boxes i).f1) y := by
    refine Ev.step (fun k => rfl) (ev_neg (by rw [hr]; simp) ?_)
    have h := ev_all0 (L := fun k j => spec_l26Good.l1 k items boxes cap ((prevL boxes i).length : Int) i j (bx boxes i).f0 (bx boxes i).f1) (bx boxes i).f1.length (inBox items boxes i) y y ?g0 ?g1 ?g2
    case g0 =>
     intro _
     refine Ev.step (fun k => rfl) (ev_neg (by omega) (Ev.bind (l26Fits_ev items _ cap hs hk hbi) (ev_pos hf ?_)))
     have hp := hb.prev i
     rw [wrap_succ hi (by omega), show wrap64 (((prevL boxes i).length : Int) + ((bx boxes i).f1.length : Int)) = ((prevL boxes (i + 1)).length : Int) from by
      rw [wrap_id (by omega) (by omega), prevL_succ hi, List.length_append]; omega]
     exact hy
    case g1 =>
     intro m hm _ hc z hz
     simp only [inBox, Bool.and_eq_true, decide_eq_true_eq] at hc
     refine Ev.step (fun k => rfl) (ev_pos (by omega) (ev_pos (by omega) ?_))
     simp only [rd_nat]
     refine Ev.bind (l26Find_ev items _ hl) (ev_neg (by have := hc.1; omega) (Ev.bind (l26Box_ev boxes _ (by omega) (fun b hb' => ?_)) (ev_pos hc.2 ?_)))
     ·obtain ⟨q, hq, rfl⟩ := List.getElem_of_mem hb'
      have := hb.box hq
      rw [bx, getD_in hq] at this
      omega
     ·rw [wrap_succ hm (by omega)]; exact hz
    case g2 =>
     intro m hm _ hc
     rw [all_range.1 ha m hm] at hc; cases hc
    refine ev_cast h ?_
    split <;> rfl
   refine Ev.step (fun k => rfl) (ev_pos (by omega) (ev_pos (by omega) ?_))
   simp only [rd_T80, Int.toNat_natCast, l1In_eq]
   refine ev_pos (by simpa using hn.1) ?_
   refine ev_ite (fun h0 => ?_) (fun h0 => ?_)
   ·have hp := wrap_pred (i := i) (by omega) (by omega)
    simp only [hp, Int.toNat_natCast]
    have := hn.2 (by omega)
    refine ev_pos (by omega) (ev_pos (by omega) (ev_neg (by simp only [bx] at this; omega) (Ev.bind (l1Rising_ev _ 1 9999 (by have := hbi; simp only [bx] at this; omega)) tail)))
   ·exact Ev.bind (l1Rising_ev _ 1 9999 (by have := hbi; simp only [bx] at this; omega)) tail
  case h2 =>
   intro i hi _ hc
   have hbi := hb.box hi
   have badj : Ev (fun k => spec_l26Good.j2 k items boxes cap ((prevL boxes i).length : Int) i true (bx boxes i).f0 (bx boxes i).f1) false := Ev.step (fun k => rfl) (ev_now rfl)
   have tail : numAt boxes i = true → Ev (fun k => spec_l26Good.j2 k items boxes cap ((prevL boxes i).length : Int) i (!rising (bx boxes i).f1 1 9999) (bx boxes i).f0 (bx boxes i).f1) false := by
    intro hn
    by_cases hr : rising (bx boxes i).f1 1 9999 = true
    case neg => rw [Bool.eq_false_iff.2 hr]; exact badj
    refine Ev.step (fun k => rfl) (ev_neg (by rw [hr]; simp) ?_)
    have h := ev_all0 (L := fun k j => spec_l26Good.l1 k items boxes cap ((prevL boxes i).length : Int) i j (bx boxes i).f0 (bx boxes i).f1) (bx boxes i).f1.length (inBox items boxes i) false false ?g0 ?g1 ?g2
    case g0 =>
     intro hall
     have ha := all_range.2 hall
     have hf : fitsL items (bx boxes i).f1 cap = false := by
      unfold boxS at hc
      rw [hn, hr, ha] at hc
      simpa using hc
     refine Ev.step (fun k => rfl) (ev_neg (by omega) (Ev.bind (l26Fits_ev items _ cap hs (known_of ha) hbi) (ev_neg (by rw [hf]; simp) (ev_now rfl))))
    case g1 =>
     intro m hm _ hc z hz
     simp only [inBox, Bool.and_eq_true, decide_eq_true_eq] at hc
     refine Ev.step (fun k => rfl) (ev_pos (by omega) (ev_pos (by omega) ?_))
     simp only [rd_nat]
     refine Ev.bind (l26Find_ev items _ hl) (ev_neg (by have := hc.1; omega) (Ev.bind (l26Box_ev boxes _ (by omega) (fun b hb' => ?_)) (ev_pos hc.2 ?_)))
     ·obtain ⟨q, hq, rfl⟩ := List.getElem_of_mem hb'
      have := hb.box hq
      rw [bx, getD_in hq] at this
      omega
     ·rw [wrap_succ hm (by omega)]; exact hz
    case g2 =>
     intro m hm _ hc
     refine Ev.step (fun k => rfl) (ev_pos (by omega) (ev_pos (by omega) ?_))
     simp only [rd_nat]
     refine Ev.bind (l26Find_ev items _ hl) (ev_ite (fun _ => ev_now rfl) (fun h0 => Ev.bind (l26Box_ev boxes _ (by omega) (fun b hb' => ?_)) (ev_neg ?_ (ev_now rfl))))
     ·obtain ⟨q, hq, rfl⟩ := List.getElem_of_mem hb'
      have := hb.box hq
      rw [bx, getD_in hq] at this
      omega
     ·intro he
      have : inBox items boxes i m = true := by
       simp only [inBox, Bool.and_eq_true, decide_eq_true_eq]
       exact ⟨by omega, he⟩
      rw [this] at hc; cases hc
    refine ev_cast h ?_
    split <;> rfl
   refine Ev.step (fun k => rfl) (ev_pos (by omega) (ev_pos (by omega) ?_))
   simp only [rd_T80, Int.toNat_natCast, l1In_eq]
   refine ev_ite (fun h1 => ?_) (fun _ => badj)
   refine ev_ite (fun h0 => ?_) (fun h0 => ?_)
   ·have hp := wrap_pred (i := i) (by omega) (by omega)
    simp only [hp, Int.toNat_natCast]
    refine ev_pos (by omega) (ev_pos (by omega) (ev_ite (fun _ => badj) (fun h2 => Ev.bind (l1Rising_ev _ 1 9999 (by have := hbi; simp only [bx] at this; omega)) (tail ?_))))
    simp only [numAt, Bool.and_eq_true, decide_eq_true_eq]
    exact ⟨by simpa using h1, fun _ => by simp only [bx]; omega⟩
   ·refine Ev.bind (l1Rising_ev _ 1 9999 (by have := hbi; simp only [bx] at this; omega)) (tail ?_)
    simp only [numAt, Bool.and_eq_true, decide_eq_true_eq]
    exact ⟨by simpa using h1, fun _ => by omega⟩
  exact h
 refine ev_cast (r := goodR items boxes cap) ?_ (by unfold good; rw [c1, decide_eq_true (show (boxes.length : Int) ≤ 12 by omega), decide_eq_true c3]; simp)
 have : (!decide (1 ≤ cap ∧ cap ≤ 10000)) = false := by simp [c3]
 show Ev (fun k => spec_l26Good.j0 k items boxes cap (!decide (1 ≤ cap ∧ cap ≤ 10000))) _
 rw [this]
 exact Ev.step (fun k => rfl) main
end Go.Proofs.Ytdbhelhoaciodaa.X
