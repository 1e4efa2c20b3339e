/- For all forms and answers the law FnExactClearHidden answers true. No condition beyond what a reading tells.
This file (part 4 of 4) holds what the proof needs: plain functions with rounds and contracts written by programs of this work over the translation, and the lemmas. -/
import Derived.Test.YtcjloeeomhiblaaZFnExactClearHidden2
import Derived.Test.YtcjloeeomhiblaaZFnExactClearHidden3
import Derived.Shelf.Abstract
import Derived.Test.YtcjloeeomhiblaaZFnExactClearHidden1
import Derived.ChangeArms
import Derived.DataReads
import Derived.Deep.Slices
import Derived.ChangeOld
import Derived.OpenShut
import Derived.Lib.Strings
import Derived.Test.YtcjloeeomhiblaaRows
import Derived.WalkKit
import Derived.ProofKit
import Derived.ShutString
import Derived.Below
import Derived.SizedLaws
import Derived.Lib.SmallJoins
namespace Go.Proofs.Ytcjloeeomhiblaa.X
open Go.RowKit Go.Proofs.YtcjloeeomhiblaaW.PrintWords Go.Proofs.YtcjloeeomhiblaaW.PrintLast Go.Proofs.YtcjloeeomhiblaaW.PrintMore
attribute [local go_sem] max2_int min2_int max_two min_two max_three min_three max_four min_four   -- for this text's walks alone
set_option linter.unusedVariables false
set_option linter.unusedSimpArgs false
attribute [-simp] ByteArray.size_append ByteArray.size_extract
attribute [-go_sem] ByteArray.size_append'

/-! ### impl_visible: function 23 -/
def impl_visible.l0 : Nat → List (S49) → List (S48) → List Bool → List (S49) → Int → Int → Option (List Bool)
 | 0, _, _, _, _, _, _ => none
 | k + 1, x0, x1, x5, x13, x14, x15 => if x15 < x14 then (if 0 ≤ x15 then (if x15 < (x13.length : Int) then (if ((rd_T49 x13 x15).f6).toList = ([] : List UInt8) then (if x15 < (x5.length : Int) then (impl_visible.l0 k x0 x1 (x5.set (x15 : Int).toNat true) x13 x14 (wrap64 (x15 + 1))) else (none)) else ((impl_answerOf.f x1 ((rd_T49 x13 x15).f6)).bind fun bt107 => ((impl_fieldOf.f x0 ((rd_T49 x13 x15).f6)).bind fun t109 => (if 0 ≤ t109 then (if t109 < (x5.length : Int) then (if rdOf false x5 t109 = true then (if x15 < (x5.length : Int) then (impl_visible.l0 k x0 x1 (x5.set (x15 : Int).toNat (bt107.1.toList == ([121, 101, 115] : List UInt8))) x13 x14 (wrap64 (x15 + 1))) else (none)) else (if x15 < (x5.length : Int) then (impl_visible.l0 k x0 x1 (x5.set (x15 : Int).toNat false) x13 x14 (wrap64 (x15 + 1))) else (none))) else (none)) else (none))))) else (none)) else (none)) else (some x5)
def impl_visible.f (k : Nat) (l0 : List (S49)) (l1 : List (S48)) : Option (List Bool) := if 0 ≤ (l0.length : Int) then (if ((l0.length : Int) : Int).toNat ≤ 281474976710656 then (impl_visible.l0 k l0 l1 (List.replicate ((l0.length : Int) : Int).toNat false) l0 (l0.length : Int) 0) else (none)) else (none)
set_option maxHeartbeats 8000000 in
set_option maxRecDepth 100000 in
theorem impl_visible.calls (k : Nat) (A0 : Option Addr) (c0 : Nat) (l0 : List (S49)) (A1 : Option Addr) (c1 : Nat) (l1 : List (S48)) (r : List Bool) (w : World) (hr0 : Kd.C k49 w A0 l0.length l0) (hc0 : l0.length ≤ c0) (hr1 : Kd.C k48 w A1 l1.length l1) (hc1 : l1.length ≤ c1) (h : impl_visible.f k l0 l1 = some r) :
  Calls Try.prog 23 #[.slice A0 l0.length c0, .slice A1 l1.length c1] w fun e w' => ∃ v0_ : Value, e = .returned (v0_) ∧ Kd.R Kd.bool 4 w' w.heap.size (fun _ => True) v0_ r ∧ Below w.heap.size w w' := by
 (have hu49 := Try.underlying49); (have HR0 := Aside0.mk hr0); (have HC0 := Aside0.mk hc0); clear hr0 hc0; (have HR1 := Aside0.mk hr1); (have HC1 := Aside0.mk hc1); clear hr1 hc1; (have HB := Aside0.mk (Below.refl w.heap.size w)); (unfold impl_visible.f at h); (have H := h); clear h; (by_cases c3 : 0 ≤ (l0.length : Int))
 ·rw [if_pos c3] at H
  (have c3b0 := eq_true c3); (have c3b1 := decide_eq_true c3); clear c3; (by_cases c4 : ((l0.length : Int) : Int).toNat ≤ 281474976710656)
  ·rw [if_pos c4] at H
   (have c4b0 := eq_true c4); (have c4b1 := decide_eq_true c4); clear c4; (obtain ⟨y101, hy101⟩ : ∃ y_ : List Bool, y_ = (List.replicate ((l0.length : Int) : Int).toNat false) := ⟨_, rfl⟩); (replace H : (impl_visible.l0 k l0 l1 y101 l0 (l0.length : Int) 0) = some r := by first | (rw [hy101]; with_reducible exact H) | (have H2_ := (Option.bind_some _ _).symm.trans H; rw [hy101]; with_reducible exact H2_) | (have H2_ := (Option.bind_some _ _).symm.trans H; with_reducible exact H2_) | with_reducible exact H | (rw [hy101]; exact H) | exact H); (have Ny101 := Aside0.mk hy101); clear hy101; (have H' := Aside0.mk H); clear H; (go_enter Try.func23, Try.ntmps23); (go_wp2_with (first | ((with_reducible refine gate_dst (N := 12) rfl ?_); refine Kd.R_make Kd.bool _ 4 rfl (N := 12) rfl 45 _ _ rfl (l0.length : Int) rfl rfl Try.underlying45 (.bool false) 1 info4 rfl (by decide) (by omega) false (ok := fun _ => True) (okp := fun _ => True) rfl (fun _ hk => hk) trivial odt (Nat.le_trans (Nat.mul_le_mul_right _ (odt : (l0.length : Int).toNat ≤ 281474976710656)) (by omega)) (Below.refl _ _) (Nat.le_refl _) ?_; intro v102 w5 ho6 hb hg_ hnew_; clear hg_ hnew_; (first | rw [← Ny101.out] at ho6 | (simp only [Int.reduceToNat] at ho6; rw [← Ny101.out] at ho6)); have hB_ := zI hb HB; have n0_ := Aside0.mk (Kd.R_lower ho6 (below_size hB_)); have n1_ := Aside0.mk (below_step hB_ hb); clear HB; have HO103 := n0_; have HB := n1_; clear n0_ n1_ hB_ hb ho6))); (go_loopg [15] k (fun kq v15 w' => ∃ (x5_1 : List Bool) (x15_1 : Int), v15 = .int .i64 x15_1 ∧ Aside0 (impl_visible.l0 kq l0 l1 x5_1 l0 (l0.length : Int) x15_1 = some r) ∧ Aside0 (kq ≤ k) ∧ Aside0 (Kd.R Kd.bool 4 w' w.heap.size (fun _ => True) v102 x5_1) ∧ Aside0 (Below w.heap.size w w')))
   case atStart => exact ⟨(y101), (0), (by first | rfl | (simp; done) | (simp [*]; done)), H', ⟨Nat.le_refl _⟩, ⟨rI HO103⟩, ⟨eI HB⟩⟩
   case round =>
    (clear H'); (try clear c1); (try clear c2); (try clear p2); (try clear c3); (try clear c3b0); (try clear c3b1); (try clear c4); (try clear c4b0); (try clear c4b1); (obtain ⟨x5_1, x15_1, rfl, HA, HK1, HO_5, HB⟩ := hrel)
    cases gk with
    | zero => exact absurd HA.out (by simp [impl_visible.l0])
    | succ k1 =>
     (have H := HA.out); clear HA; (simp only [impl_visible.l0] at H); (by_cases c7 : x15_1 < (l0.length : Int))
     ·rw [if_pos c7] at H
      (have c7b0 := decide_eq_true c7); clear c7; (by_cases c8 : 0 ≤ x15_1)
      ·rw [if_pos c8] at H
       (have c8b0 := decide_eq_true c8); clear c8; (by_cases c9 : x15_1 < (l0.length : Int))
       ·rw [if_pos c9] at H
        (have c9b0 := decide_eq_true c9); clear c9; (by_cases c10 : ((rd_T49 l0 x15_1).f6).toList = ([] : List UInt8))
        ·rw [if_pos c10] at H
         (have c10b0 : ((rd_T49 l0 x15_1).f6).toList.isEmpty = true := List.isEmpty_iff.mpr c10); (have c10b1 : (!((rd_T49 l0 x15_1).f6).toList.isEmpty) = false := by rw [List.isEmpty_iff.mpr c10]; rfl); (have c10b2 : (((rd_T49 l0 x15_1).f6).toList == ([] : List UInt8)) = true := beq_iff_eq.mpr c10); (have c10b3 : (((rd_T49 l0 x15_1).f6).toList != ([] : List UInt8)) = false := bne_eq_false_iff_eq.mpr c10); clear c10; (by_cases c11 : x15_1 < (x5_1.length : Int))
         ·rw [if_pos c11] at H
          (have c11b0 := decide_eq_true c11); clear c11; (obtain ⟨y106, hy106⟩ : ∃ y_ : List Bool, y_ = (x5_1.set (x15_1 : Int).toNat true) := ⟨_, rfl⟩); (replace H : (impl_visible.l0 k1 l0 l1 y106 l0 (l0.length : Int) (wrap64 (x15_1 + 1))) = some r := by first | (rw [hy106]; with_reducible exact H) | (have H2_ := (Option.bind_some _ _).symm.trans H; rw [hy106]; with_reducible exact H2_) | (have H2_ := (Option.bind_some _ _).symm.trans H; with_reducible exact H2_) | with_reducible exact H | (rw [hy106]; exact H) | exact H); (have Ny106 := Aside0.mk hy106); clear hy106; (have H' := Aside0.mk H); clear H; (have p104 : 0 ≤ (x15_1 : Int) := of_decide_eq_true (by first | (with_reducible assumption) | assumption)); (have q104 : x15_1 < (l0.length : Int) := of_decide_eq_true (by first | (with_reducible assumption) | assumption)); (obtain ⟨ad104, A104_4, c104_4, e104, hx104_0, hx104_1, hx104_2, hx104_3, hx104_4, hx104_5, hx104_6, hl104_4, hi104_4⟩ := at_T49 HR0.out x15_1 p104 q104); (cases e104); (replace hx104_0 := (HB.out.cell (bltc w _ hx104_0)).trans hx104_0); (replace hx104_1 := (HB.out.cell (bltc w _ hx104_1)).trans hx104_1); (replace hx104_2 := (HB.out.cell (bltc w _ hx104_2)).trans hx104_2); (replace hx104_3 := (HB.out.cell (bltc w _ hx104_3)).trans hx104_3); (replace hx104_4 := (HB.out.cell (bltc w _ hx104_4)).trans hx104_4); (replace hx104_5 := (HB.out.cell (bltc w _ hx104_5)).trans hx104_5); (replace hx104_6 := (HB.out.cell (bltc w _ hx104_6)).trans hx104_6); (have HR104_4 := Aside0.mk hi104_4); (have HC104_4 := Aside0.mk hl104_4); clear hi104_4 hl104_4; (replace p104 := eq_true p104); (replace q104 := eq_true q104)
          go_wp2_with (first | ((with_reducible refine gate_dst (N := 7) rfl ?_); refine box_event ?hg (N := 7) ?hd (cs := #[.string (⟨#[]⟩ : ByteArray), .int .i64 0, .int .i64 0, .int .i64 0, .slice none 0 0, .bool false, .string (⟨#[]⟩ : ByteArray)]) (t := 49) ?hr ?_; (case hd => rfl); (case hg => rfl); (case hr => first | (go_simp; done) | (go_simp; rfl)); intro gb105 hg w13 hbox hb; have n0_ := Aside0.mk (Kd.R_below (rI HO_5) hb); have hB_ := bz (by repeat (first | (with_reducible first | exact HB.out | apply bA | apply bN | apply bD) | exact HB.out)) hb; have n1_ := Aside0.mk (below_step hB_ hb); have n2_ := Aside0.mk (hbox); have n3_ := Aside0.mk ((by rw [hg]; exact (below_size hB_) : w.heap.size ≤ gb105)); have n4_ := n3_; clear HO_5 HB; have HO_5 := n0_; have HB := n1_; have BK105 := n2_; have GW105 := n3_; have GE105 := n4_; clear n0_ n1_ n2_ n3_ n4_ hB_ hb hbox hg; have hcz14_0 := cz BK105.out 0; have hcz14_1 := cz BK105.out 1; have hcz14_2 := cz BK105.out 2; have hcz14_3 := cz BK105.out 3; have hcz14_4 := cz BK105.out 4; have hcz14_5 := cz BK105.out 5; have hcz14_6 := cz BK105.out 6; have hfz14_0 := blk_frozen BK105.out 0; have hfz14_1 := blk_frozen BK105.out 1; have hfz14_2 := blk_frozen BK105.out 2; have hfz14_3 := blk_frozen BK105.out 3; have hfz14_4 := blk_frozen BK105.out 4; have hfz14_5 := blk_frozen BK105.out 5; have hfz14_6 := blk_frozen BK105.out 6) | ((with_reducible refine gate_store (t := 49) (p := 7) rfl ?_); refine store_event (t := 49) (p := 7) (v := ?vo_w15) (w1 := (((((((w13.setCell ⟨gb105, 0, none⟩ (.string ((rd_T49 l0 x15_1).f0))).setCell ⟨gb105, 1, none⟩ (.int .i64 ((rd_T49 l0 x15_1).f1))).setCell ⟨gb105, 2, none⟩ (.int .i64 ((rd_T49 l0 x15_1).f2))).setCell ⟨gb105, 3, none⟩ (.int .i64 ((rd_T49 l0 x15_1).f3))).setCell ⟨gb105, 4, none⟩ (.slice A104_4 ((rd_T49 l0 x15_1).f4).length c104_4)).setCell ⟨gb105, 5, none⟩ (.bool ((rd_T49 l0 x15_1).f5))).setCell ⟨gb105, 6, none⟩ (.string ((rd_T49 l0 x15_1).f6)))) ?hg ?ho ?hn ?hr ?_; (case ho => rfl); (case hg => rfl); (case hn => rfl); (case hr => first | (go_simp; done) | (go_simp; rfl)); intro w15 hw; have n0_ : Aside0 (Kd.R Kd.bool 4 w15 w.heap.size (fun _ => True) v102 x5_1) := ⟨(by rw [hw]; exact (by (with_reducible repeat (first | apply rA | apply rN | apply rD)); exact Kd.R_mono (Kd.R_far (p := ⟨gb105, 6, none⟩) (Kd.R_far (p := ⟨gb105, 5, none⟩) (Kd.R_far (p := ⟨gb105, 4, none⟩) (Kd.R_far (p := ⟨gb105, 3, none⟩) (Kd.R_far (p := ⟨gb105, 2, none⟩) (Kd.R_far (p := ⟨gb105, 1, none⟩) (Kd.R_far (p := ⟨gb105, 0, none⟩) (Kd.R_types HO_5.out BK105.out (by decide)) (fun _ hk => hk.2) (.string ((rd_T49 l0 x15_1).f0))) (fun _ hk => hk.2) (.int .i64 ((rd_T49 l0 x15_1).f1))) (fun _ hk => hk.2) (.int .i64 ((rd_T49 l0 x15_1).f2))) (fun _ hk => hk.2) (.int .i64 ((rd_T49 l0 x15_1).f3))) (fun _ hk => hk.2) (.slice A104_4 ((rd_T49 l0 x15_1).f4).length c104_4)) (fun _ hk => hk.2) (.bool ((rd_T49 l0 x15_1).f5))) (fun _ hk => hk.2) (.string ((rd_T49 l0 x15_1).f6))) (fun _ hk => trivial)))⟩; have n1_ : Aside0 (w15.heap[gb105]? = some (.cells #[.string ((rd_T49 l0 x15_1).f0), .int .i64 ((rd_T49 l0 x15_1).f1), .int .i64 ((rd_T49 l0 x15_1).f2), .int .i64 ((rd_T49 l0 x15_1).f3), .slice A104_4 ((rd_T49 l0 x15_1).f4).length c104_4, .bool ((rd_T49 l0 x15_1).f5), .string ((rd_T49 l0 x15_1).f6)] 49 (0, 0))) := ⟨(by rw [hw]; exact (by (with_reducible repeat (first | refine kN ?_ _ | refine kD ?_ | refine kA ?_ _)); refine blk_put (cs := #[.string ((rd_T49 l0 x15_1).f0), .int .i64 ((rd_T49 l0 x15_1).f1), .int .i64 ((rd_T49 l0 x15_1).f2), .int .i64 ((rd_T49 l0 x15_1).f3), .slice A104_4 ((rd_T49 l0 x15_1).f4).length c104_4, .bool ((rd_T49 l0 x15_1).f5), .string (⟨#[]⟩ : ByteArray)]) ?_ 6 _ rfl; (with_reducible repeat (first | refine kN ?_ _ | refine kD ?_ | refine kA ?_ _)); refine blk_put (cs := #[.string ((rd_T49 l0 x15_1).f0), .int .i64 ((rd_T49 l0 x15_1).f1), .int .i64 ((rd_T49 l0 x15_1).f2), .int .i64 ((rd_T49 l0 x15_1).f3), .slice A104_4 ((rd_T49 l0 x15_1).f4).length c104_4, .bool false, .string (⟨#[]⟩ : ByteArray)]) ?_ 5 _ rfl; (with_reducible repeat (first | refine kN ?_ _ | refine kD ?_ | refine kA ?_ _)); refine blk_put (cs := #[.string ((rd_T49 l0 x15_1).f0), .int .i64 ((rd_T49 l0 x15_1).f1), .int .i64 ((rd_T49 l0 x15_1).f2), .int .i64 ((rd_T49 l0 x15_1).f3), .slice none 0 0, .bool false, .string (⟨#[]⟩ : ByteArray)]) ?_ 4 _ rfl; (with_reducible repeat (first | refine kN ?_ _ | refine kD ?_ | refine kA ?_ _)); refine blk_put (cs := #[.string ((rd_T49 l0 x15_1).f0), .int .i64 ((rd_T49 l0 x15_1).f1), .int .i64 ((rd_T49 l0 x15_1).f2), .int .i64 0, .slice none 0 0, .bool false, .string (⟨#[]⟩ : ByteArray)]) ?_ 3 _ rfl; (with_reducible repeat (first | refine kN ?_ _ | refine kD ?_ | refine kA ?_ _)); refine blk_put (cs := #[.string ((rd_T49 l0 x15_1).f0), .int .i64 ((rd_T49 l0 x15_1).f1), .int .i64 0, .int .i64 0, .slice none 0 0, .bool false, .string (⟨#[]⟩ : ByteArray)]) ?_ 2 _ rfl; (with_reducible repeat (first | refine kN ?_ _ | refine kD ?_ | refine kA ?_ _)); refine blk_put (cs := #[.string ((rd_T49 l0 x15_1).f0), .int .i64 0, .int .i64 0, .int .i64 0, .slice none 0 0, .bool false, .string (⟨#[]⟩ : ByteArray)]) ?_ 1 _ rfl; (with_reducible repeat (first | refine kN ?_ _ | refine kD ?_ | refine kA ?_ _)); refine blk_put (cs := #[.string (⟨#[]⟩ : ByteArray), .int .i64 0, .int .i64 0, .int .i64 0, .slice none 0 0, .bool false, .string (⟨#[]⟩ : ByteArray)]) ?_ 0 _ rfl; (with_reducible repeat (first | refine kN ?_ _ | refine kD ?_ | refine kA ?_ _)); exact BK105.out))⟩; have n2_ : Aside0 (Below w.heap.size w w15) := ⟨(by rw [hw]; exact (by repeat (first | (with_reducible first | exact HB.out | apply bA | apply bN | apply bD | refine below_set ?_ GE105.out) | exact HB.out)))⟩; clear hw HO_5 BK105 HB; have HO_5 := n0_; have BK105 := n1_; have HB := n2_; clear n0_ n1_ n2_; have hcz16_0 := cz BK105.out 0; have hcz16_1 := cz BK105.out 1; have hcz16_2 := cz BK105.out 2; have hcz16_3 := cz BK105.out 3; have hcz16_4 := cz BK105.out 4; have hcz16_5 := cz BK105.out 5; have hcz16_6 := cz BK105.out 6; have hfz16_0 := blk_frozen BK105.out 0; have hfz16_1 := blk_frozen BK105.out 1; have hfz16_2 := blk_frozen BK105.out 2; have hfz16_3 := blk_frozen BK105.out 3; have hfz16_4 := blk_frozen BK105.out 4; have hfz16_5 := blk_frozen BK105.out 5; have hfz16_6 := blk_frozen BK105.out 6; have p12 : 0 ≤ (x15_1 : Int) := of_decide_eq_true (by first | (with_reducible assumption) | assumption); have q12 : (x15_1 : Int) < ((x5_1.length : Int) : Int) := of_decide_eq_true (by first | (with_reducible assumption) | assumption); obtain ⟨go12, co12, eo12, gb12, gl12, cl12, HG12⟩ := Kd.R_form HO_5.out (by omega); (first | cases eo12 | (injection eo12 with ea_ en_ ec_; (first | subst ea_ | (injection ea_ with ea_; subst ea_)); subst ec_; clear en_)); have GB12 := Aside0.mk gb12; have GG12 := Aside0.mk HG12; clear gb12 gl12 HG12; obtain ⟨hx12_0, hf12_0⟩ := Kd.R_celln false HO_5.out (x15_1 : Int) p12 q12; replace p12 := eq_true p12; replace q12 := eq_true q12; obtain ⟨hy17_, hz17_⟩ := Kd.R_celln false HO_5.out (x15_1 : Int) (of_decide_eq_true (by first | (with_reducible assumption) | assumption)) (of_decide_eq_true (by first | (with_reducible assumption) | assumption)); have HP17 := Kd.R_putg HO_5.out (x15_1 : Int) true) | ((with_reducible refine gate_store (t := 4) (p := 25) rfl ?_); refine store_event (t := 4) (p := 25) (v := ?vo_w18) (w1 := (w15.setCell ⟨go12, (x15_1 : Int).toNat, none⟩ (.bool true))) ?hg ?ho ?hn ?hr ?_; (case ho => rfl); (case hg => rfl); (case hn => rfl); (case hr => first | (go_simp; done) | (go_simp; rfl)); intro w18 hw; have hg : w15.grownBy w18 (some go12) := (by rw [hw]; exact HP17.2); have hp_ : Kd.R Kd.bool 4 w18 w.heap.size (fun _ => True) (.slice (some ⟨go12, 0, none⟩) x5_1.length co12) y106 := (by rw [hw, Ny106.out]; exact HP17.1); clear HP17; have n0_ := Aside0.mk (hp_); have n1_ := Aside0.mk (blk_grown (kI BK105) hg (Kd.R_ne HO_5.out BK105.out (by decide))); have n2_ := Aside0.mk ((by rw [hw]; exact below_set (HB.out) GB12.out : Below w.heap.size w w18)); clear HO_5 BK105 HB; have HO_5 := n0_; have BK105 := n1_; have HB := n2_; clear n0_ n1_ n2_ hg hw hp_))
          go_roundg k1
          case measure => have := HK1.out; omega
          case rel => exact ⟨(y106), (wrap64 (x15_1 + 1)), (by first | rfl | (simp; done) | (simp [*]; done)), H', ⟨by have := HK1.out; omega⟩, ⟨by (with_reducible repeat (first | apply rA | apply rN | apply rD)); exact HO_5.out⟩, ⟨by repeat (first | (with_reducible first | exact HB.out | apply bA | apply bN | apply bD | refine below_set ?_ GE105.out) | exact HB.out)⟩⟩
         ·rw [if_neg c11] at H
          exact absurd H (by simp)
        ·rw [if_neg c10] at H
         (have c10b0 : ((rd_T49 l0 x15_1).f6).toList.isEmpty = false := by rw [Bool.eq_false_iff]; exact fun h_ => c10 (List.isEmpty_iff.mp h_)); (have c10b1 : (!((rd_T49 l0 x15_1).f6).toList.isEmpty) = true := by rw [show ((rd_T49 l0 x15_1).f6).toList.isEmpty = false from by rw [Bool.eq_false_iff]; exact fun h_ => c10 (List.isEmpty_iff.mp h_)]; rfl); (have c10b2 : (((rd_T49 l0 x15_1).f6).toList == ([] : List UInt8)) = false := beq_eq_false_iff_ne.mpr c10); (have c10b3 : (((rd_T49 l0 x15_1).f6).toList != ([] : List UInt8)) = true := bne_iff_ne.mpr c10); (replace H := obS H); (obtain ⟨⟨t107, t108⟩, A19, H⟩ := H); (replace H : ((impl_fieldOf.f l0 ((rd_T49 l0 x15_1).f6)).bind fun t109 => (if 0 ≤ t109 then (if t109 < (x5_1.length : Int) then (if rdOf false x5_1 t109 = true then (if x15_1 < (x5_1.length : Int) then (impl_visible.l0 k1 l0 l1 (x5_1.set (x15_1 : Int).toNat (t107.toList == ([121, 101, 115] : List UInt8))) l0 (l0.length : Int) (wrap64 (x15_1 + 1))) else (none)) else (if x15_1 < (x5_1.length : Int) then (impl_visible.l0 k1 l0 l1 (x5_1.set (x15_1 : Int).toNat false) l0 (l0.length : Int) (wrap64 (x15_1 + 1))) else (none))) else (none)) else (none))) = some r := H); (replace H := obS H); (obtain ⟨t109, A20, H⟩ := H); (by_cases c21 : 0 ≤ t109)
         ·rw [if_pos c21] at H
          (have c21b0 := decide_eq_true c21); clear c21; (by_cases c22 : t109 < (x5_1.length : Int))
          ·rw [if_pos c22] at H
           (have c22b0 := decide_eq_true c22); clear c22; (obtain ⟨bq23, hbq23⟩ : ∃ b_ : Bool, b_ = (rdOf false x5_1 t109) := ⟨_, rfl⟩); (replace H : (if bq23 = true then (if x15_1 < (x5_1.length : Int) then (impl_visible.l0 k1 l0 l1 (x5_1.set (x15_1 : Int).toNat (t107.toList == ([121, 101, 115] : List UInt8))) l0 (l0.length : Int) (wrap64 (x15_1 + 1))) else (none)) else (if x15_1 < (x5_1.length : Int) then (impl_visible.l0 k1 l0 l1 (x5_1.set (x15_1 : Int).toNat false) l0 (l0.length : Int) (wrap64 (x15_1 + 1))) else (none))) = some r := by rw [← hbq23] at H; exact H); (have Nbq23 := Aside0.mk hbq23); clear hbq23; (by_cases c24 : bq23 = true)
           ·subst c24
            (rw [if_pos rfl] at H); (by_cases c25 : x15_1 < (x5_1.length : Int))
            ·rw [if_pos c25] at H
             (have c25b0 := decide_eq_true c25); clear c25; (obtain ⟨y111, hy111⟩ : ∃ y_ : List Bool, y_ = (x5_1.set (x15_1 : Int).toNat (t107.toList == ([121, 101, 115] : List UInt8))) := ⟨_, rfl⟩); (replace H : (impl_visible.l0 k1 l0 l1 y111 l0 (l0.length : Int) (wrap64 (x15_1 + 1))) = some r := by first | (rw [hy111]; with_reducible exact H) | (have H2_ := (Option.bind_some _ _).symm.trans H; rw [hy111]; with_reducible exact H2_) | (have H2_ := (Option.bind_some _ _).symm.trans H; with_reducible exact H2_) | with_reducible exact H | (rw [hy111]; exact H) | exact H); (have Ny111 := Aside0.mk hy111); clear hy111; (have H' := Aside0.mk H); clear H; (have p104 : 0 ≤ (x15_1 : Int) := of_decide_eq_true (by first | (with_reducible assumption) | assumption)); (have q104 : x15_1 < (l0.length : Int) := of_decide_eq_true (by first | (with_reducible assumption) | assumption)); (obtain ⟨ad104, A104_4, c104_4, e104, hx104_0, hx104_1, hx104_2, hx104_3, hx104_4, hx104_5, hx104_6, hl104_4, hi104_4⟩ := at_T49 HR0.out x15_1 p104 q104); ((try rw [← Nbq23.out] at hx104_5)); (cases e104); (replace hx104_0 := (HB.out.cell (bltc w _ hx104_0)).trans hx104_0); (replace hx104_1 := (HB.out.cell (bltc w _ hx104_1)).trans hx104_1); (replace hx104_2 := (HB.out.cell (bltc w _ hx104_2)).trans hx104_2); (replace hx104_3 := (HB.out.cell (bltc w _ hx104_3)).trans hx104_3); (replace hx104_4 := (HB.out.cell (bltc w _ hx104_4)).trans hx104_4); (replace hx104_5 := (HB.out.cell (bltc w _ hx104_5)).trans hx104_5); (replace hx104_6 := (HB.out.cell (bltc w _ hx104_6)).trans hx104_6); (have HR104_4 := Aside0.mk hi104_4); (have HC104_4 := Aside0.mk hl104_4); clear hi104_4 hl104_4; (replace p104 := eq_true p104); (replace q104 := eq_true q104)
             go_wp2_with (first | ((with_reducible refine gate_dst (N := 7) rfl ?_); refine box_event ?hg (N := 7) ?hd (cs := #[.string (⟨#[]⟩ : ByteArray), .int .i64 0, .int .i64 0, .int .i64 0, .slice none 0 0, .bool false, .string (⟨#[]⟩ : ByteArray)]) (t := 49) ?hr ?_; (case hd => rfl); (case hg => rfl); (case hr => first | (go_simp; done) | (go_simp; rfl)); intro gb105 hg w27 hbox hb; have n0_ := Aside0.mk (Kd.R_below (by (with_reducible repeat (first | apply rA | apply rN | apply rD)); exact HO_5.out) hb); have hB_ := bz (by repeat (first | (with_reducible first | exact HB.out | apply bA | apply bN | apply bD) | exact HB.out)) hb; have n1_ := Aside0.mk (below_step hB_ hb); have n2_ := Aside0.mk (hbox); have n3_ := Aside0.mk ((by rw [hg]; exact (below_size hB_) : w.heap.size ≤ gb105)); have n4_ := n3_; clear HO_5 HB; have HO_5 := n0_; have HB := n1_; have BK105 := n2_; have GW105 := n3_; have GE105 := n4_; clear n0_ n1_ n2_ n3_ n4_ hB_ hb hbox hg; have hcz28_0 := cz BK105.out 0; have hcz28_1 := cz BK105.out 1; have hcz28_2 := cz BK105.out 2; have hcz28_3 := cz BK105.out 3; have hcz28_4 := cz BK105.out 4; have hcz28_5 := cz BK105.out 5; have hcz28_6 := cz BK105.out 6; have hfz28_0 := blk_frozen BK105.out 0; have hfz28_1 := blk_frozen BK105.out 1; have hfz28_2 := blk_frozen BK105.out 2; have hfz28_3 := blk_frozen BK105.out 3; have hfz28_4 := blk_frozen BK105.out 4; have hfz28_5 := blk_frozen BK105.out 5; have hfz28_6 := blk_frozen BK105.out 6) | ((with_reducible refine gate_callee (f := 39) rfl ?_); refine gL (some 30) Try.func39 #[.slice A1 l1.length c1, .string ((rd_T49 l0 x15_1).f6)] ?_; (with_reducible refine (impl_answerOf.calls _ _ l1 ((rd_T49 l0 x15_1).f6) t107 t108 _ ?side1 ?side2 A19.out).mono ?_); (case side1 => exact Kd.C_below HR1.out (by repeat (first | (with_reducible first | exact HB.out | apply bA | apply bN | apply bD | refine below_set ?_ GE105.out) | exact HB.out))); (case side2 => exact HC1.out); rintro e w29 ⟨rfl, hb⟩; refine ⟨_, rfl, ?_⟩; have n0_ := Aside0.mk (Kd.R_below (by (with_reducible repeat (first | apply rA | apply rN | apply rD)); exact (Kd.R_mono (Kd.R_far (p := ⟨gb105, 6, none⟩) (Kd.R_far (p := ⟨gb105, 5, none⟩) (Kd.R_far (p := ⟨gb105, 4, none⟩) (Kd.R_far (p := ⟨gb105, 3, none⟩) (Kd.R_far (p := ⟨gb105, 2, none⟩) (Kd.R_far (p := ⟨gb105, 1, none⟩) (Kd.R_far (p := ⟨gb105, 0, none⟩) (Kd.R_types HO_5.out BK105.out (by decide)) (fun _ hk => hk.2) (.string ((rd_T49 l0 x15_1).f0))) (fun _ hk => hk.2) (.int .i64 ((rd_T49 l0 x15_1).f1))) (fun _ hk => hk.2) (.int .i64 ((rd_T49 l0 x15_1).f2))) (fun _ hk => hk.2) (.int .i64 ((rd_T49 l0 x15_1).f3))) (fun _ hk => hk.2) (.slice A104_4 ((rd_T49 l0 x15_1).f4).length c104_4)) (fun _ hk => hk.2) (.bool ((rd_T49 l0 x15_1).f5))) (fun _ hk => hk.2) (.string ((rd_T49 l0 x15_1).f6))) (fun _ h_ => h_.1))) hb); have n1_ := Aside0.mk (blk_below (g := gb105) (o := .cells #[.string ((rd_T49 l0 x15_1).f0), .int .i64 ((rd_T49 l0 x15_1).f1), .int .i64 ((rd_T49 l0 x15_1).f2), .int .i64 ((rd_T49 l0 x15_1).f3), .slice A104_4 ((rd_T49 l0 x15_1).f4).length c104_4, .bool ((rd_T49 l0 x15_1).f5), .string ((rd_T49 l0 x15_1).f6)] 49 (0, 0)) (by (with_reducible repeat (first | refine kN ?_ _ | refine kD ?_ | refine kA ?_ _)); refine blk_put (cs := #[.string ((rd_T49 l0 x15_1).f0), .int .i64 ((rd_T49 l0 x15_1).f1), .int .i64 ((rd_T49 l0 x15_1).f2), .int .i64 ((rd_T49 l0 x15_1).f3), .slice A104_4 ((rd_T49 l0 x15_1).f4).length c104_4, .bool ((rd_T49 l0 x15_1).f5), .string (⟨#[]⟩ : ByteArray)]) ?_ 6 _ rfl; (with_reducible repeat (first | refine kN ?_ _ | refine kD ?_ | refine kA ?_ _)); refine blk_put (cs := #[.string ((rd_T49 l0 x15_1).f0), .int .i64 ((rd_T49 l0 x15_1).f1), .int .i64 ((rd_T49 l0 x15_1).f2), .int .i64 ((rd_T49 l0 x15_1).f3), .slice A104_4 ((rd_T49 l0 x15_1).f4).length c104_4, .bool false, .string (⟨#[]⟩ : ByteArray)]) ?_ 5 _ rfl; (with_reducible repeat (first | refine kN ?_ _ | refine kD ?_ | refine kA ?_ _)); refine blk_put (cs := #[.string ((rd_T49 l0 x15_1).f0), .int .i64 ((rd_T49 l0 x15_1).f1), .int .i64 ((rd_T49 l0 x15_1).f2), .int .i64 ((rd_T49 l0 x15_1).f3), .slice none 0 0, .bool false, .string (⟨#[]⟩ : ByteArray)]) ?_ 4 _ rfl; (with_reducible repeat (first | refine kN ?_ _ | refine kD ?_ | refine kA ?_ _)); refine blk_put (cs := #[.string ((rd_T49 l0 x15_1).f0), .int .i64 ((rd_T49 l0 x15_1).f1), .int .i64 ((rd_T49 l0 x15_1).f2), .int .i64 0, .slice none 0 0, .bool false, .string (⟨#[]⟩ : ByteArray)]) ?_ 3 _ rfl; (with_reducible repeat (first | refine kN ?_ _ | refine kD ?_ | refine kA ?_ _)); refine blk_put (cs := #[.string ((rd_T49 l0 x15_1).f0), .int .i64 ((rd_T49 l0 x15_1).f1), .int .i64 0, .int .i64 0, .slice none 0 0, .bool false, .string (⟨#[]⟩ : ByteArray)]) ?_ 2 _ rfl; (with_reducible repeat (first | refine kN ?_ _ | refine kD ?_ | refine kA ?_ _)); refine blk_put (cs := #[.string ((rd_T49 l0 x15_1).f0), .int .i64 0, .int .i64 0, .int .i64 0, .slice none 0 0, .bool false, .string (⟨#[]⟩ : ByteArray)]) ?_ 1 _ rfl; (with_reducible repeat (first | refine kN ?_ _ | refine kD ?_ | refine kA ?_ _)); refine blk_put (cs := #[.string (⟨#[]⟩ : ByteArray), .int .i64 0, .int .i64 0, .int .i64 0, .slice none 0 0, .bool false, .string (⟨#[]⟩ : ByteArray)]) ?_ 0 _ rfl; (with_reducible repeat (first | refine kN ?_ _ | refine kD ?_ | refine kA ?_ _)); exact BK105.out) hb); have n2_ := Aside0.mk (below_step (by repeat (first | (with_reducible first | exact HB.out | apply bA | apply bN | apply bD | refine below_set ?_ GE105.out) | exact HB.out)) hb); clear HO_5 BK105 HB; have HO_5 := n0_; have BK105 := n1_; have HB := n2_; clear n0_ n1_ n2_; (try clear hb); (try clear hb2); (try clear hk); (try clear hi); have hcz30_0 := cz BK105.out 0; have hcz30_1 := cz BK105.out 1; have hcz30_2 := cz BK105.out 2; have hcz30_3 := cz BK105.out 3; have hcz30_4 := cz BK105.out 4; have hcz30_5 := cz BK105.out 5; have hcz30_6 := cz BK105.out 6; have hfz30_0 := blk_frozen BK105.out 0; have hfz30_1 := blk_frozen BK105.out 1; have hfz30_2 := blk_frozen BK105.out 2; have hfz30_3 := blk_frozen BK105.out 3; have hfz30_4 := blk_frozen BK105.out 4; have hfz30_5 := blk_frozen BK105.out 5; have hfz30_6 := blk_frozen BK105.out 6) | ((with_reducible refine gate_callee (f := 27) rfl ?_); refine gL (some 39) Try.func27 #[.slice (some ad104) l0.length c0, .string ((rd_T49 l0 x15_1).f6)] ?_; (with_reducible refine (impl_fieldOf.calls _ _ l0 ((rd_T49 l0 x15_1).f6) t109 _ ?side1 ?side2 A20.out).mono ?_); (case side1 => repeat (first | exact (Kd.C_below HR0.out HB.out) | (with_reducible first | refine cA ?_ _ | refine cN ?_ _ | refine cD ?_))); (case side2 => exact HC0.out); rintro e w31 ⟨rfl, hb⟩; refine ⟨_, rfl, ?_⟩; have n0_ := Aside0.mk (Kd.R_below (by (with_reducible repeat (first | apply rA | apply rN | apply rD)); exact HO_5.out) hb); have n1_ := Aside0.mk (blk_below (by (with_reducible repeat (first | refine kN ?_ _ | refine kD ?_ | refine kA ?_ _)); exact BK105.out) hb); have n2_ := Aside0.mk (below_step (eI HB) hb); clear HO_5 BK105 HB; have HO_5 := n0_; have BK105 := n1_; have HB := n2_; clear n0_ n1_ n2_; (try clear hb); (try clear hb2); (try clear hk); (try clear hi); obtain ⟨Ao32, co32, eo32⟩ := Kd.R_slice HO_5.out; subst eo32; have p110 : 0 ≤ (t109 : Int) := of_decide_eq_true (by first | (with_reducible assumption) | assumption); have q110 : t109 < (x5_1.length : Int) := of_decide_eq_true (by first | (with_reducible assumption) | assumption); obtain ⟨ad110, e110, hx110_0⟩ := Kd.at_bool (Kd.R_reads' HO_5.out).2.2 t109 p110 q110; (try rw [← Nbq23.out] at hx110_0); cases e110; replace p110 := eq_true p110; replace q110 := eq_true q110; have p26 : 0 ≤ (x15_1 : Int) := of_decide_eq_true (by first | (with_reducible assumption) | assumption); have q26 : (x15_1 : Int) < ((x5_1.length : Int) : Int) := of_decide_eq_true (by first | (with_reducible assumption) | assumption); obtain ⟨go26, co26, eo26, gb26, gl26, cl26, HG26⟩ := Kd.R_form HO_5.out (by omega); (first | cases eo26 | (injection eo26 with ea_ en_ ec_; (first | subst ea_ | (injection ea_ with ea_; subst ea_)); subst ec_; clear en_)); have GB26 := Aside0.mk gb26; have GG26 := Aside0.mk HG26; clear gb26 gl26 HG26; (first | simp only [add_plain] at hx110_0 | skip); obtain ⟨hx26_0, hf26_0⟩ := Kd.R_celln false HO_5.out (x15_1 : Int) p26 q26; replace p26 := eq_true p26; replace q26 := eq_true q26; obtain ⟨hy33_, hz33_⟩ := Kd.R_celln false HO_5.out (x15_1 : Int) (of_decide_eq_true (by first | (with_reducible assumption) | assumption)) (of_decide_eq_true (by first | (with_reducible assumption) | assumption)); have HP33 := Kd.R_putg HO_5.out (x15_1 : Int) (t107.toList == ([121, 101, 115] : List UInt8))) | ((with_reducible refine gate_store (t := 4) (p := 46) rfl ?_); refine store_event (t := 4) (p := 46) (v := ?vo_w34) (w1 := (w31.setCell ⟨go26, (x15_1 : Int).toNat, none⟩ (.bool (t107.toList == ([121, 101, 115] : List UInt8))))) ?hg ?ho ?hn ?hr ?_; (case ho => rfl); (case hg => rfl); (case hn => rfl); (case hr => first | (go_simp; done) | (go_simp; rfl)); intro w34 hw; have hg : w31.grownBy w34 (some go26) := (by rw [hw]; exact HP33.2); have hp_ : Kd.R Kd.bool 4 w34 w.heap.size (fun _ => True) (.slice (some ⟨go26, 0, none⟩) x5_1.length co32) y111 := (by rw [hw, Ny111.out]; exact HP33.1); clear HP33; have n0_ := Aside0.mk (hp_); have n1_ := Aside0.mk (blk_grown (by (with_reducible repeat (first | refine kN ?_ _ | refine kD ?_ | refine kA ?_ _)); exact BK105.out) hg (Kd.R_ne HO_5.out BK105.out (by decide))); have n2_ := Aside0.mk ((by rw [hw]; exact below_set (HB.out) GB26.out : Below w.heap.size w w34)); clear HO_5 BK105 HB; have HO_5 := n0_; have BK105 := n1_; have HB := n2_; clear n0_ n1_ n2_ hg hw hp_))
             go_roundg k1
             case measure => have := HK1.out; omega
             case rel => exact ⟨(y111), (wrap64 (x15_1 + 1)), (by first | rfl | (simp; done) | (simp [*]; done)), H', ⟨by have := HK1.out; omega⟩, ⟨rI HO_5⟩, ⟨eI HB⟩⟩
            ·rw [if_neg c25] at H
             exact absurd H (by simp)
           ·replace c24 := Bool.eq_false_iff.mpr c24
            subst c24; (rw [if_neg (show ¬ (false = true) by decide)] at H); (by_cases c35 : x15_1 < (x5_1.length : Int))
            ·rw [if_pos c35] at H
             (have c35b0 := decide_eq_true c35); clear c35; (obtain ⟨y112, hy112⟩ : ∃ y_ : List Bool, y_ = (x5_1.set (x15_1 : Int).toNat false) := ⟨_, rfl⟩); (replace H : (impl_visible.l0 k1 l0 l1 y112 l0 (l0.length : Int) (wrap64 (x15_1 + 1))) = some r := by first | (rw [hy112]; with_reducible exact H) | (have H2_ := (Option.bind_some _ _).symm.trans H; rw [hy112]; with_reducible exact H2_) | (have H2_ := (Option.bind_some _ _).symm.trans H; with_reducible exact H2_) | with_reducible exact H | (rw [hy112]; exact H) | exact H); (have Ny112 := Aside0.mk hy112); clear hy112; (have H' := Aside0.mk H); clear H; (have p104 : 0 ≤ (x15_1 : Int) := of_decide_eq_true (by first | (with_reducible assumption) | assumption)); (have q104 : x15_1 < (l0.length : Int) := of_decide_eq_true (by first | (with_reducible assumption) | assumption)); (obtain ⟨ad104, A104_4, c104_4, e104, hx104_0, hx104_1, hx104_2, hx104_3, hx104_4, hx104_5, hx104_6, hl104_4, hi104_4⟩ := at_T49 HR0.out x15_1 p104 q104); ((try rw [← Nbq23.out] at hx104_5)); (cases e104); (replace hx104_0 := (HB.out.cell (bltc w _ hx104_0)).trans hx104_0); (replace hx104_1 := (HB.out.cell (bltc w _ hx104_1)).trans hx104_1); (replace hx104_2 := (HB.out.cell (bltc w _ hx104_2)).trans hx104_2); (replace hx104_3 := (HB.out.cell (bltc w _ hx104_3)).trans hx104_3); (replace hx104_4 := (HB.out.cell (bltc w _ hx104_4)).trans hx104_4); (replace hx104_5 := (HB.out.cell (bltc w _ hx104_5)).trans hx104_5); (replace hx104_6 := (HB.out.cell (bltc w _ hx104_6)).trans hx104_6); (have HR104_4 := Aside0.mk hi104_4); (have HC104_4 := Aside0.mk hl104_4); clear hi104_4 hl104_4; (replace p104 := eq_true p104); (replace q104 := eq_true q104)
             go_wp2_with (first | ((with_reducible refine gate_dst (N := 7) rfl ?_); refine box_event ?hg (N := 7) ?hd (cs := #[.string (⟨#[]⟩ : ByteArray), .int .i64 0, .int .i64 0, .int .i64 0, .slice none 0 0, .bool false, .string (⟨#[]⟩ : ByteArray)]) (t := 49) ?hr ?_; (case hd => rfl); (case hg => rfl); (case hr => first | (go_simp; done) | (go_simp; rfl)); intro gb105 hg w37 hbox hb; have n0_ := Aside0.mk (Kd.R_below (by (with_reducible repeat (first | apply rA | apply rN | apply rD)); exact HO_5.out) hb); have hB_ := bz (by repeat (first | (with_reducible first | exact HB.out | apply bA | apply bN | apply bD) | exact HB.out)) hb; have n1_ := Aside0.mk (below_step hB_ hb); have n2_ := Aside0.mk (hbox); have n3_ := Aside0.mk ((by rw [hg]; exact (below_size hB_) : w.heap.size ≤ gb105)); have n4_ := n3_; clear HO_5 HB; have HO_5 := n0_; have HB := n1_; have BK105 := n2_; have GW105 := n3_; have GE105 := n4_; clear n0_ n1_ n2_ n3_ n4_ hB_ hb hbox hg; have hcz38_0 := cz BK105.out 0; have hcz38_1 := cz BK105.out 1; have hcz38_2 := cz BK105.out 2; have hcz38_3 := cz BK105.out 3; have hcz38_4 := cz BK105.out 4; have hcz38_5 := cz BK105.out 5; have hcz38_6 := cz BK105.out 6; have hfz38_0 := blk_frozen BK105.out 0; have hfz38_1 := blk_frozen BK105.out 1; have hfz38_2 := blk_frozen BK105.out 2; have hfz38_3 := blk_frozen BK105.out 3; have hfz38_4 := blk_frozen BK105.out 4; have hfz38_5 := blk_frozen BK105.out 5; have hfz38_6 := blk_frozen BK105.out 6) | ((with_reducible refine gate_callee (f := 39) rfl ?_); refine gL (some 30) Try.func39 #[.slice A1 l1.length c1, .string ((rd_T49 l0 x15_1).f6)] ?_; (with_reducible refine (impl_answerOf.calls _ _ l1 ((rd_T49 l0 x15_1).f6) t107 t108 _ ?side1 ?side2 A19.out).mono ?_); (case side1 => exact Kd.C_below HR1.out (by repeat (first | (with_reducible first | exact HB.out | apply bA | apply bN | apply bD | refine below_set ?_ GE105.out) | exact HB.out))); (case side2 => exact HC1.out); rintro e w39 ⟨rfl, hb⟩; refine ⟨_, rfl, ?_⟩; have n0_ := Aside0.mk (Kd.R_below (by (with_reducible repeat (first | apply rA | apply rN | apply rD)); exact (Kd.R_mono (Kd.R_far (p := ⟨gb105, 6, none⟩) (Kd.R_far (p := ⟨gb105, 5, none⟩) (Kd.R_far (p := ⟨gb105, 4, none⟩) (Kd.R_far (p := ⟨gb105, 3, none⟩) (Kd.R_far (p := ⟨gb105, 2, none⟩) (Kd.R_far (p := ⟨gb105, 1, none⟩) (Kd.R_far (p := ⟨gb105, 0, none⟩) (Kd.R_types HO_5.out BK105.out (by decide)) (fun _ hk => hk.2) (.string ((rd_T49 l0 x15_1).f0))) (fun _ hk => hk.2) (.int .i64 ((rd_T49 l0 x15_1).f1))) (fun _ hk => hk.2) (.int .i64 ((rd_T49 l0 x15_1).f2))) (fun _ hk => hk.2) (.int .i64 ((rd_T49 l0 x15_1).f3))) (fun _ hk => hk.2) (.slice A104_4 ((rd_T49 l0 x15_1).f4).length c104_4)) (fun _ hk => hk.2) (.bool ((rd_T49 l0 x15_1).f5))) (fun _ hk => hk.2) (.string ((rd_T49 l0 x15_1).f6))) (fun _ h_ => h_.1))) hb); have n1_ := Aside0.mk (blk_below (g := gb105) (o := .cells #[.string ((rd_T49 l0 x15_1).f0), .int .i64 ((rd_T49 l0 x15_1).f1), .int .i64 ((rd_T49 l0 x15_1).f2), .int .i64 ((rd_T49 l0 x15_1).f3), .slice A104_4 ((rd_T49 l0 x15_1).f4).length c104_4, .bool ((rd_T49 l0 x15_1).f5), .string ((rd_T49 l0 x15_1).f6)] 49 (0, 0)) (by (with_reducible repeat (first | refine kN ?_ _ | refine kD ?_ | refine kA ?_ _)); refine blk_put (cs := #[.string ((rd_T49 l0 x15_1).f0), .int .i64 ((rd_T49 l0 x15_1).f1), .int .i64 ((rd_T49 l0 x15_1).f2), .int .i64 ((rd_T49 l0 x15_1).f3), .slice A104_4 ((rd_T49 l0 x15_1).f4).length c104_4, .bool ((rd_T49 l0 x15_1).f5), .string (⟨#[]⟩ : ByteArray)]) ?_ 6 _ rfl; (with_reducible repeat (first | refine kN ?_ _ | refine kD ?_ | refine kA ?_ _)); refine blk_put (cs := #[.string ((rd_T49 l0 x15_1).f0), .int .i64 ((rd_T49 l0 x15_1).f1), .int .i64 ((rd_T49 l0 x15_1).f2), .int .i64 ((rd_T49 l0 x15_1).f3), .slice A104_4 ((rd_T49 l0 x15_1).f4).length c104_4, .bool false, .string (⟨#[]⟩ : ByteArray)]) ?_ 5 _ rfl; (with_reducible repeat (first | refine kN ?_ _ | refine kD ?_ | refine kA ?_ _)); refine blk_put (cs := #[.string ((rd_T49 l0 x15_1).f0), .int .i64 ((rd_T49 l0 x15_1).f1), .int .i64 ((rd_T49 l0 x15_1).f2), .int .i64 ((rd_T49 l0 x15_1).f3), .slice none 0 0, .bool false, .string (⟨#[]⟩ : ByteArray)]) ?_ 4 _ rfl; (with_reducible repeat (first | refine kN ?_ _ | refine kD ?_ | refine kA ?_ _)); refine blk_put (cs := #[.string ((rd_T49 l0 x15_1).f0), .int .i64 ((rd_T49 l0 x15_1).f1), .int .i64 ((rd_T49 l0 x15_1).f2), .int .i64 0, .slice none 0 0, .bool false, .string (⟨#[]⟩ : ByteArray)]) ?_ 3 _ rfl; (with_reducible repeat (first | refine kN ?_ _ | refine kD ?_ | refine kA ?_ _)); refine blk_put (cs := #[.string ((rd_T49 l0 x15_1).f0), .int .i64 ((rd_T49 l0 x15_1).f1), .int .i64 0, .int .i64 0, .slice none 0 0, .bool false, .string (⟨#[]⟩ : ByteArray)]) ?_ 2 _ rfl; (with_reducible repeat (first | refine kN ?_ _ | refine kD ?_ | refine kA ?_ _)); refine blk_put (cs := #[.string ((rd_T49 l0 x15_1).f0), .int .i64 0, .int .i64 0, .int .i64 0, .slice none 0 0, .bool false, .string (⟨#[]⟩ : ByteArray)]) ?_ 1 _ rfl; (with_reducible repeat (first | refine kN ?_ _ | refine kD ?_ | refine kA ?_ _)); refine blk_put (cs := #[.string (⟨#[]⟩ : ByteArray), .int .i64 0, .int .i64 0, .int .i64 0, .slice none 0 0, .bool false, .string (⟨#[]⟩ : ByteArray)]) ?_ 0 _ rfl; (with_reducible repeat (first | refine kN ?_ _ | refine kD ?_ | refine kA ?_ _)); exact BK105.out) hb); have n2_ := Aside0.mk (below_step (by repeat (first | (with_reducible first | exact HB.out | apply bA | apply bN | apply bD | refine below_set ?_ GE105.out) | exact HB.out)) hb); clear HO_5 BK105 HB; have HO_5 := n0_; have BK105 := n1_; have HB := n2_; clear n0_ n1_ n2_; (try clear hb); (try clear hb2); (try clear hk); (try clear hi); have hcz40_0 := cz BK105.out 0; have hcz40_1 := cz BK105.out 1; have hcz40_2 := cz BK105.out 2; have hcz40_3 := cz BK105.out 3; have hcz40_4 := cz BK105.out 4; have hcz40_5 := cz BK105.out 5; have hcz40_6 := cz BK105.out 6; have hfz40_0 := blk_frozen BK105.out 0; have hfz40_1 := blk_frozen BK105.out 1; have hfz40_2 := blk_frozen BK105.out 2; have hfz40_3 := blk_frozen BK105.out 3; have hfz40_4 := blk_frozen BK105.out 4; have hfz40_5 := blk_frozen BK105.out 5; have hfz40_6 := blk_frozen BK105.out 6) | ((with_reducible refine gate_callee (f := 27) rfl ?_); refine gL (some 39) Try.func27 #[.slice (some ad104) l0.length c0, .string ((rd_T49 l0 x15_1).f6)] ?_; (with_reducible refine (impl_fieldOf.calls _ _ l0 ((rd_T49 l0 x15_1).f6) t109 _ ?side1 ?side2 A20.out).mono ?_); (case side1 => repeat (first | exact (Kd.C_below HR0.out HB.out) | (with_reducible first | refine cA ?_ _ | refine cN ?_ _ | refine cD ?_))); (case side2 => exact HC0.out); rintro e w41 ⟨rfl, hb⟩; refine ⟨_, rfl, ?_⟩; have n0_ := Aside0.mk (Kd.R_below (by (with_reducible repeat (first | apply rA | apply rN | apply rD)); exact HO_5.out) hb); have n1_ := Aside0.mk (blk_below (by (with_reducible repeat (first | refine kN ?_ _ | refine kD ?_ | refine kA ?_ _)); exact BK105.out) hb); have n2_ := Aside0.mk (below_step (by repeat (first | (with_reducible first | exact HB.out | apply bA | apply bN | apply bD | refine below_set ?_ GE105.out) | exact HB.out)) hb); clear HO_5 BK105 HB; have HO_5 := n0_; have BK105 := n1_; have HB := n2_; clear n0_ n1_ n2_; (try clear hb); (try clear hb2); (try clear hk); (try clear hi); obtain ⟨Ao42, co42, eo42⟩ := Kd.R_slice HO_5.out; subst eo42; have p110 : 0 ≤ (t109 : Int) := of_decide_eq_true (by first | (with_reducible assumption) | assumption); have q110 : t109 < (x5_1.length : Int) := of_decide_eq_true (by first | (with_reducible assumption) | assumption); obtain ⟨ad110, e110, hx110_0⟩ := Kd.at_bool (Kd.R_reads' HO_5.out).2.2 t109 p110 q110; (try rw [← Nbq23.out] at hx110_0); cases e110; replace p110 := eq_true p110; replace q110 := eq_true q110; have p36 : 0 ≤ (x15_1 : Int) := of_decide_eq_true (by first | (with_reducible assumption) | assumption); have q36 : (x15_1 : Int) < ((x5_1.length : Int) : Int) := of_decide_eq_true (by first | (with_reducible assumption) | assumption); obtain ⟨go36, co36, eo36, gb36, gl36, cl36, HG36⟩ := Kd.R_form HO_5.out (by omega); (first | cases eo36 | (injection eo36 with ea_ en_ ec_; (first | subst ea_ | (injection ea_ with ea_; subst ea_)); subst ec_; clear en_)); have GB36 := Aside0.mk gb36; have GG36 := Aside0.mk HG36; clear gb36 gl36 HG36; (first | simp only [add_plain] at hx110_0 | skip); obtain ⟨hx36_0, hf36_0⟩ := Kd.R_celln false HO_5.out (x15_1 : Int) p36 q36; replace p36 := eq_true p36; replace q36 := eq_true q36; obtain ⟨hy43_, hz43_⟩ := Kd.R_celln false HO_5.out (x15_1 : Int) (of_decide_eq_true (by first | (with_reducible assumption) | assumption)) (of_decide_eq_true (by first | (with_reducible assumption) | assumption)); have HP43 := Kd.R_putg HO_5.out (x15_1 : Int) false) | ((with_reducible refine gate_store (t := 4) (p := 46) rfl ?_); refine store_event (t := 4) (p := 46) (v := ?vo_w44) (w1 := (w41.setCell ⟨go36, (x15_1 : Int).toNat, none⟩ (.bool false))) ?hg ?ho ?hn ?hr ?_; (case ho => rfl); (case hg => rfl); (case hn => rfl); (case hr => first | (go_simp; done) | (go_simp; rfl)); intro w44 hw; have hg : w41.grownBy w44 (some go36) := (by rw [hw]; exact HP43.2); have hp_ : Kd.R Kd.bool 4 w44 w.heap.size (fun _ => True) (.slice (some ⟨go36, 0, none⟩) x5_1.length co42) y112 := (by rw [hw, Ny112.out]; exact HP43.1); clear HP43; have n0_ := Aside0.mk (hp_); have n1_ := Aside0.mk (blk_grown (by (with_reducible repeat (first | refine kN ?_ _ | refine kD ?_ | refine kA ?_ _)); exact BK105.out) hg (Kd.R_ne HO_5.out BK105.out (by decide))); have n2_ := Aside0.mk ((by rw [hw]; exact below_set (HB.out) GB36.out : Below w.heap.size w w44)); clear HO_5 BK105 HB; have HO_5 := n0_; have BK105 := n1_; have HB := n2_; clear n0_ n1_ n2_ hg hw hp_))
             go_roundg k1
             case measure => have := HK1.out; omega
             case rel => exact ⟨(y112), (wrap64 (x15_1 + 1)), (by first | rfl | (simp; done) | (simp [*]; done)), H', ⟨by have := HK1.out; omega⟩, ⟨by (with_reducible repeat (first | apply rA | apply rN | apply rD)); exact HO_5.out⟩, ⟨by repeat (first | (with_reducible first | exact HB.out | apply bA | apply bN | apply bD | refine below_set ?_ GE105.out) | exact HB.out)⟩⟩
            ·rw [if_neg c35] at H
             exact absurd H (by simp)
          ·rw [if_neg c22] at H
           exact absurd H (by simp)
         ·rw [if_neg c21] at H
          exact absurd H (by simp)
       ·rw [if_neg c9] at H
        exact absurd H (by simp)
      ·rw [if_neg c8] at H
       exact absurd H (by simp)
     ·rw [if_neg c7] at H
      (have c7b0 := decide_eq_false c7); clear c7; (obtain rfl := Option.some.inj H); (go_wp2); go_ret; (exact ⟨_, by first | rfl | (simp [errW_none, errW_some] <;> rfl) | (simp [*, errW_none, errW_some] <;> rfl), rI HO_5, eI HB⟩)
  ·rw [if_neg c4] at H
   exact absurd H (by simp)
 ·rw [if_neg c3] at H
  exact absurd H (by simp)

end Go.Proofs.Ytcjloeeomhiblaa.X
namespace Go.Proofs.Ytcjloeeomhiblaa.X
open Go.RowKit Go.Proofs.YtcjloeeomhiblaaW.PrintWords Go.Proofs.YtcjloeeomhiblaaW.PrintLast Go.Proofs.YtcjloeeomhiblaaW.PrintMore Go.Proofs.Ytcjloeeomhiblaa.E
attribute [local go_sem] max2_int min2_int max_two min_two max_three min_three max_four min_four   -- for this text's walks alone
set_option linter.unusedVariables false
set_option linter.unusedSimpArgs false
attribute [-simp] ByteArray.size_append ByteArray.size_extract
attribute [-go_sem] ByteArray.size_append'

/-! ### impl_Answer: function 25 -/
/-- A copy of a row of records of two numbers; an absent row's copy is absent. -/
def impl_Answer.f (l0 : List S48) : Option (List S48) := if l0.length < 4398046511104 then some l0 else none
theorem impl_Answer.eqnil (t e : Nat) (ht : Try.prog.underlying t = some (.slice e)) (A : Option Addr) (n c : Nat) (w : World) : Sem.run Try.prog (binOp .eql t (.slice A n c) (.slice none 0 0)) w = .ok (.bool A.isNone) w := by
 (have hr : Sem.run Try.prog (underlying t) w = .ok (.slice e) w := by simp [underlying, ht]); (cases A <;> (simp [binOp, Op.equal, Op.maxDepth]; unfold Op.equalIn; simp [hr]))
set_option maxHeartbeats 1000000 in
set_option maxRecDepth 100000 in
theorem impl_Answer.calls (A0 : Option Addr) (c0 : Nat) (l0 : List (S48)) (r1 : List (S48)) (w : World) (hr0 : Kd.C k48 w A0 l0.length l0) (hc0 : l0.length ≤ c0) (h : impl_Answer.f l0 = some r1) :
  Calls Try.prog 25 #[.slice A0 l0.length c0] w fun e w' => ∃ v0_ : Value, e = .returned v0_ ∧ Kd.R k48 48 w' w.heap.size (fun _ => True) v0_ r1 ∧ Below w.heap.size w w' := by
 (unfold impl_Answer.f at h); (by_cases hl : l0.length < 4398046511104)
 case neg => rw [if_neg hl] at h; exact absurd h (by simp)
 (rw [if_pos hl] at h); (obtain rfl := Option.some.inj h); clear h; (have HL := Aside0.mk hl); (have hu27 := Try.underlying26); clear hl
 cases A0 with
 | none =>
  have hn : l0 = [] := by
   (rcases l0 with _ | ⟨x, l⟩); (· rfl); (· (obtain ⟨ad, e, _⟩ := hr0.2.2 (Nat.succ_pos _)); (exact absurd e (by simp)))
  subst hn; clear hr0; (have he : Sem.run Try.prog (binOp .eql 26 (.slice none 0 c0) (.slice none 0 0)) w = .ok (.bool true) w := impl_Answer.eqnil _ _ hu27 none 0 c0 w); (go_enter Try.func25, Try.ntmps25); (go_wp2); go_ret
  exact ⟨_, rfl, Kd.R_nil _ _ _ _ _, Below.refl _ _⟩
 | some ad =>
  (have HR0 := Aside0.mk hr0); (have he : Sem.run Try.prog (binOp .eql 26 (.slice (some ad) l0.length c0) (.slice none 0 0)) w = .ok (.bool false) w := impl_Answer.eqnil _ _ hu27 (some ad) l0.length c0 w); clear hr0; (go_enter Try.func25, Try.ntmps25); (go_wp2_with (first | ((with_reducible refine gate_dst (N := 5) rfl ?_); refine Kd.R_lit k48 _ 48 ?hg (N := 5) ?hd (xs := ([] : List S48)) (inner := []) (ok := fun _ => True) (okp := fun _ => True) ?hr ?hp (fun _ hk => hk) trivial (Below.refl _ _) (Nat.le_refl _) (by simp) ?_; (case hd => rfl); (case hg => rfl); (case hr => first | (go_simp; done) | (go_simp; rfl)); (case hp => exact (Reps.none _ _)); intro v1 w1 ho hb hg_ hnew_; clear hg_ hnew_; have HO := Aside0.mk ho; have HB := Aside0.mk hb; clear ho hb) | ((with_reducible refine gate_builtin (b := .append) (xs := #[.tmp 5, .tmp 6]) rfl ?_); refine Kd.R_append_rows k48 (w0 := w) w.heap.size rfl (.tmp 5) (.tmp 6) _ 48 (.agg #[(.string ByteArray.empty), (.string ByteArray.empty)]) 32 rfl (by kernel_rfl) info48 rfl (by decide) (by omega) v1 ([] : List S48) l0 _ _ _ (fun _ => True) (fun _ => False) rfl rfl ?aO ?aR (fun _ _ h => h) (fun _ h => h.elim) ?aF ?aB ?aS ?aL ?_; (case aO => exact HO.out); (case aR => exact Kd.C_below HR0.out HB.out); (case aF => exact (fun _ _ => trivial)); (case aB => exact HB.out); (case aS => exact HB.out.size); (case aL => have := HL.out; simp only [List.length_nil]; omega); intro v2 w2 ho hb hg hat; clear hg hat; have HO2 := Aside0.mk ho; have HB2 := Aside0.mk hb; clear ho hb))); go_ret; (exact ⟨_, rfl, HO2.out, HB2.out⟩)

end Go.Proofs.Ytcjloeeomhiblaa.X
set_option linter.unusedVariables false
namespace Go.Proofs.Ytcjloeeomhiblaa.X
open Go.RowKit Go.Proofs.YtcjloeeomhiblaaW.PrintWords Go.Proofs.YtcjloeeomhiblaaW.PrintLast Go.Proofs.YtcjloeeomhiblaaW.PrintMore Go.Proofs.Ytcjloeeomhiblaa.E
theorem zeroCells_mem (z : Array Value) (m : Nat) (v : Value) (h : v ∈ (Builtin.zeroCells z m).toList) : v ∈ z.toList := by
  unfold Builtin.zeroCells at h
  rw [Array.toList_map, List.mem_map] at h
  obtain ⟨i, hi, rfl⟩ := h
  have hi' : i < m * z.size := by simpa using hi
  have hp : 0 < z.size := by
    rcases Nat.eq_zero_or_pos z.size with h0 | h0
    · rw [h0, Nat.mul_zero] at hi'
      omega
    · exact h0
  have hlt : i % z.size < z.size := Nat.mod_lt _ hp
  rw [getElem!_pos z _ hlt]
  exact Array.getElem_mem_toList hlt
theorem R_clear {P : Program} {α : Type} (d : Kd α) {W w0 : World} {base e t ty g n cap c i bytes : Nat} {ok : Nat → Prop} {xs : List α} (z : Value) (ht : P.underlying t = some (.slice e)) (hinfo : (P.info? e).map (fun i => (i.zero, i.size, i.bytes)) = some (some z, d.sz, bytes)) (hz : z.cells.size = d.sz) (h1 : z.cells.toList.all (fun q => q.oneCell') = true)
    (HO : Kd.R d e W base ok (.slice (some ⟨g, 0, none⟩) n cap) xs) (hi : i < n) (HB : Below base w0 W) :
    ∃ w1, (Builtin.clear_ #[t] ty #[.slice (some ⟨g, i * d.sz, none⟩) (n - i) c]).run P W = .ok (.tuple #[]) w1 ∧ Kd.R d e w1 base ok (.slice (some ⟨g, 0, none⟩) i cap) (xs.take i) ∧ Below base w0 w1 := by
  obtain ⟨i0, hi0, hzz⟩ := Option.map_eq_some_iff.1 hinfo
  simp only [Prod.mk.injEq] at hzz
  have hv : ∀ w, (zeroValue e).run P w = .ok z w := fun w => by simp [zeroValue, typeInfo, hi0, hzz.1]
  obtain ⟨hn, hnc, _⟩ := Kd.R_reads' HO
  obtain ⟨hok, inner, ⟨hl, ho⟩, hr⟩ := Kd.R_take HO (m := i) (by omega)
  obtain ⟨m, hm⟩ : ∃ m, n - i = m + 1 := ⟨n - i - 1, by omega⟩
  obtain ⟨vs, hvs⟩ : ∃ vs, vs = (Builtin.zeroCells z.cells (m + 1)).toList := ⟨_, rfl⟩
  have hlen : vs.length = (n - i) * d.sz := by rw [hvs, hm, ← hz]; simp [Builtin.zeroCells]
  have h1s : ∀ v ∈ vs, v.oneCell' = true := fun v hv' => List.all_eq_true.1 h1 v (zeroCells_mem _ _ _ (hvs ▸ hv'))
  rcases ho with ⟨hv', _⟩ | ⟨g', cap', cur, hv', hb, hh, hnc', hcm, hcs, hct⟩
  · cases hv'
  injection hv' with ha _ hc
  injection ha with ha
  injection ha with hg
  subst hg; subst hc
  have hfit : i * d.sz + vs.length ≤ cur.size := by
    rw [hlen, ← Nat.add_mul, hcs]
    exact Nat.mul_le_mul_right _ (by omega)
  obtain ⟨cur', h3, h4, h5⟩ := setCells_row vs (i * d.sz) W cur hh hfit
  obtain ⟨s1, s2, s3, s4⟩ := setCells_same g vs (i * d.sz) W
  have hli : (xs.take i).length = i := by rw [List.length_take]; omega
  refine ⟨W.setCells g (i * d.sz) vs, ?_, ⟨hok, inner, ⟨hl, .inr ⟨g, cap, cur', by rw [hli], hb, h3, hnc', hcm, h4.trans hcs, ?_⟩⟩, hr.imp_ (fun _ _ hp => d.M_move (fun k hk => setCells_far vs _ k (fun e => hk.2 (by rw [e]; rfl))) hp)⟩, HB.trans ⟨s1, s2, s3, by rw [s4]; exact Nat.le_refl _, fun k hk => setCells_far vs _ k (by omega)⟩⟩
  · have hst := run_storeCells_cells (P := P) g (i * d.sz) vs 0 W (fun j hj => by rw [cell_of_row W g _ cur e (0, 0) hh]; simp; omega) (fun j _ => blk_frozen hh _) h1s
    simp only [Nat.add_zero] at hst
    rw [hvs] at hst ⊢
    simp [Builtin.clear_, run_underlying ht, hv, hm, hst]
  · rw [hli] at hct ⊢
    have hb2 : i * d.sz ≤ cur.toList.length := by rw [Array.length_toList]; omega
    rw [h5, List.append_assoc, List.take_append_of_le_length (by rw [List.length_take]; omega), List.take_take, Nat.min_self]
    exact hct
theorem R_at0 {α : Type} {d : Kd α} {W : World} {base e : Nat} {ok : Nat → Prop} {v : Value} {xs : List α} (HO : Kd.R d e W base ok v xs) (hn : 0 < xs.length) : ∃ g cap, v = .slice (some ⟨g, 0, none⟩) xs.length cap := by
  obtain ⟨_, inner, ⟨_, ho⟩, _⟩ := HO
  rcases ho with ⟨_, h0⟩ | ⟨g, cap, cur, hv, _⟩
  · omega
  · exact ⟨g, cap, hv⟩
end Go.Proofs.Ytcjloeeomhiblaa.X
set_option linter.unusedVariables false
namespace Go.Proofs.Ytcjloeeomhiblaa.X
open Go.RowKit Go.Proofs.YtcjloeeomhiblaaW.PrintWords Go.Proofs.YtcjloeeomhiblaaW.PrintLast Go.Proofs.YtcjloeeomhiblaaW.PrintMore Go.Proofs.Ytcjloeeomhiblaa.E
theorem filter_take_succ {α : Type} (p : α → Bool) (l : List α) (j : Nat) (x : α) (h : l[j]? = some x) : (l.take (j + 1)).filter p = (l.take j).filter p ++ (if p x = true then [x] else []) := by
  obtain ⟨hl, hx⟩ := List.getElem?_eq_some_iff.1 h
  rw [List.take_succ_eq_append_getElem hl, List.filter_append, hx]
  congr 1
  cases hp : p x <;> simp [hp]
theorem take_set_succ {α : Type} (l : List α) (i : Nat) (x : α) (h : i < l.length) : (l.set i x).take (i + 1) = l.take i ++ [x] := by
  rw [List.take_succ_eq_append_getElem (by rw [List.length_set]; exact h), List.getElem_set_self, List.take_set_of_le (Nat.le_refl i)]
set_option maxHeartbeats 4000000 in
set_option maxRecDepth 100000 in
theorem deleteFunc24 (v : Value) (l0 : List (S48)) (g : Nat) (lb : Array Value) (p : S48 → Bool) (w w0 : World) (base : Nat) (hbs : base ≤ w.heap.size) (hl : l0.length < 4398046511104)
    (HO : Kd.R k48 48 w base (fun _ => True) v l0) (HB0 : Below base w0 w) (eg : ∀ args w, (callFunc g args).run Try.prog w = .ok (.enter g args) w)
    (hp : ∀ (W : World) (x : S48), x ∈ l0 → Below base w0 W → Calls Try.prog g (#[.agg #[.string x.f0, .string x.f1]] ++ lb) W fun e w' => e = .returned (.bool (p x)) ∧ Below W.heap.size W w') :
    Calls Try.prog 24 #[v, .func (.func g) #[] lb] w fun e w' => ∃ v1, e = .returned v1 ∧ Kd.R k48 48 w' base (fun _ => True) v1 (l0.filter (fun x => !p x)) ∧ Below base w0 w' := by
  have hu48 := Try.underlying48
  have hust := Try.underlying26
  obtain ⟨A_, c_, rfl, hlc, hC⟩ := Kd.R_reads HO
  have hI := idxFunc40 A_ c_ l0 g lb p w hC eg (fun W x hx hb => hp W x hx (HB0.trans (hb.mono hbs)))
  rcases idxG_spec p l0 0 with ⟨h1, h2⟩ | ⟨j0, x0, h1, h2, h3, h4, h5, h6⟩
  · rw [h1] at hI
    have HI := Aside0.mk hI
    have HF := Aside0.mk (List.filter_eq_self.2 (fun x hx => by show (!p x) = true; rw [h2 x hx]; rfl : ∀ x ∈ l0, (fun x => !p x) x = true))
    have HR0 := Aside0.mk HO
    have HB := Aside0.mk HB0
    clear hI h1 h2 HO HB0 hp hC
    go_enter Try.func24, Try.ntmps24
    go_wp2_with (go_at_call 40; refine HI.out.mono ?_; rintro e w' ⟨rfl, hb⟩)
    go_ret
    exact ⟨_, rfl, by rw [HF.out]; exact Kd.R_below HR0.out hb, HB.out.trans (hb.mono hbs)⟩
  rw [h2, Nat.zero_add] at hI
  have hn0 : 0 < l0.length := by omega
  obtain ⟨gb, cp, hv⟩ := R_at0 HO hn0
  obtain ⟨rfl, rfl⟩ : A_ = some ⟨gb, 0, none⟩ ∧ c_ = cp := by injection hv with a b c; exact ⟨a, c⟩
  have HI := Aside0.mk hI
  have HR0 := Aside0.mk HO
  have HB := Aside0.mk HB0
  have HP := Aside0.mk hp
  have HH := Aside0.mk h6
  have H4 := Aside0.mk (And.intro h3 h4)
  clear hI h2 HO HB0 hp hC hv h6 h5 h3 h4 hlc
  have hne1 : ((j0 : Int) == -1) = false := beq_eq_false_iff_ne.2 (by omega)
  go_enter Try.func24, Try.ntmps24
  go_wp2_with (go_at_call 40; refine HI.out.mono ?_; rintro e w1 ⟨rfl, hb⟩)
  have HR1 := Aside0.mk (Kd.R_below HR0.out hb)
  have HB1 := Aside0.mk (HB.out.trans (hb.mono hbs))
  have HS1 := Aside0.mk (Nat.le_trans hbs hb.size)
  clear hb HR0 HI HB
  have HADD := Aside0.mk (fun m => by unfold Addr.add; split <;> simp_all : ∀ m : Nat, (⟨gb, 0, none⟩ : Addr).add m = ⟨gb, m, none⟩)
  go_loopg [5, 6, 7] l0.length (fun gg s5 s6 _ wr => ∃ (i j : Int) (xs : List (S48)), s5 = .int .i64 i ∧ s6 = .int .i64 j ∧ Aside0 (0 ≤ i ∧ i < j) ∧ Aside0 (j ≤ (l0.length : Int)) ∧ Aside0 ((l0.length : Int) - j ≤ (gg : Int)) ∧ Aside0 (xs.length = l0.length) ∧ Aside0 (Kd.R k48 48 wr base (fun _ => True) (.slice (some ⟨gb, 0, none⟩) l0.length c_) xs) ∧ Aside0 (Below base w0 wr) ∧ Aside0 (base ≤ wr.heap.size) ∧ Aside0 (xs.take i.toNat = (l0.take j.toNat).filter (fun x => !p x)) ∧ Aside0 (xs.drop j.toNat = l0.drop j.toNat))
  case atStart =>
    refine ⟨(j0 : Int), (j0 : Int) + 1, l0, rfl, by go_num, ⟨by omega⟩, ⟨by omega⟩, ⟨by omega⟩, ⟨rfl⟩, HR1, HB1, HS1, ⟨?_⟩, ⟨rfl⟩⟩
    rw [Int.toNat_natCast, show ((j0 : Int) + 1).toNat = j0 + 1 by omega, filter_take_succ _ _ _ _ H4.out.1, H4.out.2, if_neg (by simp), List.append_nil]
    refine (List.filter_eq_self.2 fun x hx => ?_).symm
    obtain ⟨m, hm, e⟩ := List.mem_iff_getElem.1 hx
    rw [List.length_take] at hm
    rw [List.getElem_take] at e
    show (!p x) = true
    rw [HH.out m x (by omega) (by rw [← e]; exact List.getElem?_eq_getElem _)]
    rfl
  case round =>
    obtain ⟨i, j, xs, rfl, rfl, Hij, Hj, Hg, Hxl, HR, HB, HS, HT, HD⟩ := hrel
    by_cases c : j < (l0.length : Int)
    · have cb : decide (j < (l0.length : Int)) = true := decide_eq_true c
      have q0 : 0 ≤ j := by have := Hij.out; omega
      have q1 : 0 ≤ i := Hij.out.1
      have q2 : i < (l0.length : Int) := by have := Hij.out; omega
      have hxl := Hxl.out
      have hCx := (Kd.R_reads' HR.out).2.2
      rw [hxl] at hCx
      obtain ⟨ad, e, hx0, hx1⟩ := at_T48 hCx j q0 c
      cases e
      simp only [HADD.out] at hx0 hx1
      have hel : xs[j.toNat]? = some (rd_T48 xs j) := by
        unfold rd_T48
        rw [List.getD_eq_getElem?_getD, List.getElem?_eq_getElem (show j.toNat < xs.length by omega), Option.getD_some]
      have hel0 : l0[j.toNat]? = some (rd_T48 xs j) := by
        have h7 := congrArg (fun l : List (S48) => l[0]?) HD.out
        simp only [List.getElem?_drop, Nat.add_zero] at h7
        rw [← h7]
        exact hel
      have HE := Aside0.mk hel0
      have HC := Aside0.mk (fun W (hb : Below base w0 W) => HP.out W (rd_T48 xs j) (List.mem_of_getElem? hel0) hb)
      clear hel hel0 hCx hxl
      have hwr : wrap64 (j + 1) = j + 1 := wrap_id (by omega) (by have := hl; omega)
      have hwi : wrap64 (i + 1) = i + 1 := wrap_id (by omega) (by have := hl; omega)
      cases hq : p (rd_T48 xs j) with
      | true =>
        have hc0 := HC.out
        simp only [hq] at hc0
        have HC1 := Aside0.mk hc0
        have HQ := Aside0.mk hq
        clear hq hc0 HC
        go_wp2_with (go_at_fn g; refine (HC1.out _ ?sb).mono ?_; (case sb => exact HB.out.alloc HS.out _); (rintro e w3 ⟨rfl, hb⟩))
        have HB3 := Aside0.mk ((HB.out.alloc HS.out _).trans (hb.mono (by have := HS.out; simp; omega)))
        have HS3 := Aside0.mk (Nat.le_trans (by have := HS.out; simp; omega : base ≤ _) hb.size)
        have HR3 := Aside0.mk (Kd.R_below (Kd.R_below HR.out ((Below.refl _ _).alloc (Nat.le_refl _) _)) hb)
        clear hb
        go_roundg ((l0.length : Int) - (j + 1)).toNat
        case measure => have := Hg.out; have := Hij.out; omega
        case rel =>
          refine ⟨i, j + 1, xs, rfl, by simp [*], ⟨by omega, by have := Hij.out; omega⟩, ⟨by omega⟩, ⟨by omega⟩, Hxl, HR3, HB3, HS3, ⟨?_⟩, ⟨?_⟩⟩
          · rw [show (j + 1).toNat = j.toNat + 1 by omega, filter_take_succ _ _ _ _ HE.out, HQ.out, if_neg (by simp), List.append_nil]
            exact HT.out
          · rw [show (j + 1).toNat = j.toNat + 1 by omega, ← List.drop_drop, HD.out, List.drop_drop]
      | false =>
        have hc0 := HC.out
        simp only [hq] at hc0
        have HC1 := Aside0.mk hc0
        have HQ := Aside0.mk hq
        clear hq hc0 HC
        go_wp2_with (first | (go_at_fn g; refine (HC1.out _ ?sb).mono ?_; (case sb => exact HB.out.alloc HS.out _); (rintro e w3 ⟨rfl, hb⟩); have g0 := (hb.cell (p := ⟨wr.heap.size, 0, none⟩) (by simp)).trans (by simp : _ = some (.string (rd_T48 xs j).f0)); have g1 := (hb.cell (p := ⟨wr.heap.size, 1, none⟩) (by simp)).trans (by simp : _ = some (.string (rd_T48 xs j).f1)); have HB3 := Aside0.mk ((HB.out.alloc HS.out _).trans (hb.mono (by have := HS.out; simp; omega))); have HS3 := Aside0.mk (Nat.le_trans (by have := HS.out; simp; omega : base ≤ _) hb.size); have HR3 := Aside0.mk (Kd.R_below (Kd.R_below HR.out ((Below.refl _ _).alloc (Nat.le_refl _) _)) hb); clear hb) | ((with_reducible refine gate_store (t := 48) (p := 33) rfl ?_); (obtain ⟨ad, e, hy0, hy1⟩ := at_T48 (Hxl.out ▸ (Kd.R_reads' HR3.out).2.2) i q1 q2); cases e; simp only [HADD.out] at hy0 hy1; refine Kd.R_store k48 (w0 := w0) base rfl rfl 48 (.tmp 33) (.tmp 32) rfl 48 i 0 xs (rd_T48 xs j) (.agg #[.string (rd_T48 xs j).f0, .string (rd_T48 xs j).f1]) [.string (rd_T48 xs j).f0, .string (rd_T48 xs j).f1] [.string (rd_T48 xs i).f0, .string (rd_T48 xs i).f1] (fun _ => True) (fun _ => False) rfl rfl rfl rfl (by kernel_rfl) (by intro q hq; simp at hq; rcases hq with rfl | rfl <;> rfl) HR3.out q1 q2 rfl ?acc (Nat.le_refl _) (k48_mkM _ _ _ _) (fun _ h => h.elim) HB3.out ?_; (case acc => intro m u hm; (rcases m with _ | m); (cases hm; exact hy0); (rcases m with _ | m); (cases hm; exact hy1); cases hm); intro w4 hr4 hb4 hg4; have HR4 := Aside0.mk hr4; have HB4 := Aside0.mk hb4; have HS4 := Aside0.mk (Nat.le_trans HS3.out hg4.size); clear hr4 hb4 hg4 hy0 hy1 HR3 HB3 HS3))
        go_roundg ((l0.length : Int) - (j + 1)).toNat
        case measure => have := Hg.out; have := Hij.out; omega
        case rel =>
          have hln := Hxl.out
          have hij := Hij.out
          refine ⟨i + 1, j + 1, xs.set i.toNat (rd_T48 xs j), by simp [*], by simp [*], ⟨by omega, by omega⟩, ⟨by omega⟩, ⟨by omega⟩, ⟨by rw [List.length_set]; exact hln⟩, HR4, HB4, HS4, ⟨?_⟩, ⟨?_⟩⟩
          · rw [show (i + 1).toNat = i.toNat + 1 by omega, show (j + 1).toNat = j.toNat + 1 by omega, filter_take_succ _ _ _ _ HE.out, HQ.out, if_pos (by rfl), take_set_succ _ _ _ (by omega), HT.out]
          · rw [show (j + 1).toNat = j.toNat + 1 by omega, List.drop_set_of_lt (by omega), ← List.drop_drop, HD.out, List.drop_drop]
    · have cb : decide (j < (l0.length : Int)) = false := decide_eq_false c
      have e : j = (l0.length : Int) := by have := Hj.out; omega
      have HE := Aside0.mk e
      clear e
      have hbz := Nat.le_refl 0
      have hnc := (Kd.R_reads' HR.out).2.1
      have hij : i.toNat < l0.length := by have := Hij.out; have := HE.out; omega
      obtain ⟨w2, hcl, hR2, hB2⟩ := R_clear k48 (.agg #[.string ByteArray.empty, .string ByteArray.empty]) (ty := 0) (c := c_ - i.toNat) hust info48 rfl rfl HR.out hij HB.out
      replace hcl : (Builtin.clear_ #[26] 0 #[.slice (some ⟨gb, i.toNat * 2, none⟩) (l0.length - i.toNat) (c_ - i.toNat)]).run Try.prog wr = .ok (.tuple #[]) w2 := hcl
      have HR2 := Aside0.mk hR2
      have HB2 := Aside0.mk hB2
      have hne2 : ¬ c_ = i.toNat := by omega
      have hi1 : i ≤ (l0.length : Int) := by omega
      have hi2 : i.toNat ≤ c_ := by omega
      have hi3 : i ≤ (c_ : Int) := by omega
      have q1 : 0 ≤ i := Hij.out.1
      clear hR2 hB2 hbz
      go_wp2
      go_ret
      refine ⟨_, rfl, ?_, HB2.out⟩
      have h8 := HT.out
      rw [HE.out, Int.toNat_natCast, List.take_length] at h8
      rw [← h8]
      exact HR2.out
end Go.Proofs.Ytcjloeeomhiblaa.X
namespace Go.Proofs.Ytcjloeeomhiblaa.X
open Go.RowKit Go.Proofs.YtcjloeeomhiblaaW.PrintWords Go.Proofs.YtcjloeeomhiblaaW.PrintLast Go.Proofs.YtcjloeeomhiblaaW.PrintMore Go.Proofs.Ytcjloeeomhiblaa.E
attribute [local go_sem] max2_int min2_int max_two min_two max_three min_three max_four min_four   -- for this text's walks alone
set_option linter.unusedVariables false
set_option linter.unusedSimpArgs false
attribute [-simp] ByteArray.size_append ByteArray.size_extract
attribute [-go_sem] ByteArray.size_append'

/-! ### impl_ClearHidden: function 9 -/
set_option maxHeartbeats 8000000 in
set_option maxRecDepth 100000 in
/-- The literal of ClearHidden: is the answer's field hidden? -/
theorem clearHidden1 (x : S48) (A0 : Option Addr) (c0 : Nat) (l0 : List S49) (A7 : Option Addr) (c7 : Nat) (q : List Bool) (B6 B2 : Nat) (t : Int) (w : World) (hc6 : w.cell? ⟨B6, 0, none⟩ = some (.slice A7 q.length c7)) (hc2 : w.cell? ⟨B2, 0, none⟩ = some (.slice A0 l0.length c0)) (hr0 : Kd.C k49 w A0 l0.length l0) (hc0 : l0.length ≤ c0) (hr7 : Kd.C Kd.bool w A7 q.length q) (ht : impl_fieldOf.f l0 x.f0 = some t) (h0 : 0 ≤ t) (h1 : t < (q.length : Int)) :
  Calls Try.prog 26 #[.agg #[.string x.f0, .string x.f1], .pointer (some ⟨B6, 0, none⟩), .pointer (some ⟨B2, 0, none⟩)] w fun e w' => e = .returned (.bool (!(rdOf false q t))) ∧ Below w.heap.size w w' := by
 (have hu59 := Try.underlying48); (have hc6' : ∀ o : Obj, (w.alloc o).cell? ⟨B6, 0, none⟩ = some (.slice A7 q.length c7) := fun o => ((((Below.refl _ _).alloc (Nat.le_refl _) o).cell (p := ⟨B6, 0, none⟩) (bltc w _ hc6))).trans hc6); (have hc2' : ∀ o : Obj, (w.alloc o).cell? ⟨B2, 0, none⟩ = some (.slice A0 l0.length c0) := fun o => ((((Below.refl _ _).alloc (Nat.le_refl _) o).cell (p := ⟨B2, 0, none⟩) (bltc w _ hc2))).trans hc2); (have HR0 := Aside0.mk hr0); (have HR7 := Aside0.mk hr7); (have HT := Aside0.mk ht); (have HC0 := Aside0.mk hc0); clear hr0 hr7 ht hc0; (obtain ⟨ad, e, hx⟩ := Kd.at_bool HR7.out t h0 h1); (cases e); (have HX := Aside0.mk hx); clear hx; (have HB := Aside0.mk (Below.refl w.heap.size w)); (have LT6 := Aside0.mk (bltc w _ hc6)); (have LTX := Aside0.mk (bltc w _ HX.out)); (have H6 := Aside0.mk hc6); (go_enter Try.func26, Try.ntmps26); (go_upto_region 1 with (fail)); (go_region_with (go_at_call 27; refine (impl_fieldOf.calls A0 c0 l0 x.f0 t _ ?s1 HC0.out HT.out).mono ?_; (case s1 => exact Kd.C_below HR0.out (by repeat (first | exact HB.out | apply bA | apply bN | apply bD))); rintro e w1 ⟨rfl, hb⟩; have hb1 := Aside0.mk (below_step (by repeat (first | exact HB.out | apply bA | apply bN | apply bD)) hb); clear hb; have g6 := (hb1.out.cell LT6.out).trans H6.out; have gx := (hb1.out.cell LTX.out).trans HX.out)); (all_goals (go_wp2_with fail; go_ret; exact ⟨rfl, by repeat (first | exact hb1.out | apply bA | apply bN | apply bD)⟩))
/-- Where an answer's field lies in the form. -/
def hidAt (l0 : List S49) (a : S48) : Int := idxG (fun x : S49 => x.f0.toList == a.f0.toList) 0 l0
def hidOk (l0 : List S49) (l1 : List S48) (q : List Bool) : Bool := decide (l1.length < 4398046511104) && l1.all (fun a => decide (0 ≤ hidAt l0 a) && decide (hidAt l0 a < (q.length : Int)))
def impl_ClearHidden.f (k : Nat) (l0 : List S49) (l1 : List S48) : Option (List S48 × Bool) := (impl_IsValidAnswers.f k l0 l1).bind fun t => (if t = true then ((impl_visible.f k l0 l1).bind fun q => (if hidOk l0 l1 q = true then some (l1.filter (fun a => rdOf false q (hidAt l0 a)), true) else none)) else (some ([], false)))
theorem clearHiddenD {tb : TypeId} (v9 : Value) (A0 : Option Addr) (c0 : Nat) (l0 : List S49) (l1 : List S48) (A7 : Option Addr) (c7 : Nat) (q : List Bool) (w w7 w9 : World) (HB7 : Below w.heap.size w w7) (S7 : w.heap.size < w7.heap.size) (g3 : w7.cell? ⟨w.heap.size, 0, none⟩ = some (.slice A0 l0.length c0)) (HR0 : Kd.C k49 w A0 l0.length l0) (HC0 : l0.length ≤ c0) (HO7 : Kd.C Kd.bool w7 A7 q.length q) (HL : l1.length < 4398046511104) (HA : ∀ a ∈ l1, 0 ≤ hidAt l0 a ∧ hidAt l0 a < (q.length : Int))
  (ho : Kd.R k48 48 w9 (w7.alloc (.cells #[.slice A7 q.length c7] tb)).heap.size (fun _ => True) v9 l1) (hb : Below (w7.alloc (.cells #[.slice A7 q.length c7] tb)).heap.size (w7.alloc (.cells #[.slice A7 q.length c7] tb)) w9) :
  Calls Try.prog 24 #[v9, .func (.func 26) #[] #[.pointer (some ⟨w7.heap.size, 0, none⟩), .pointer (some ⟨w.heap.size, 0, none⟩)]] w9 fun e w' => ∃ v1, e = .returned v1 ∧ Kd.R k48 48 w' w.heap.size (fun _ => True) v1 (l1.filter (fun a => rdOf false q (hidAt l0 a))) ∧ Below w.heap.size w w' := by
 (have hsz : (w7.alloc (.cells #[.slice A7 q.length c7] tb)).heap.size = w7.heap.size + 1 := by simp); (have hB8 : Below w.heap.size w (w7.alloc (.cells #[.slice A7 q.length c7] tb)) := bA HB7 _); (have q2 : (w7.alloc (.cells #[.slice A7 q.length c7] tb)).cell? ⟨w.heap.size, 0, none⟩ = some (.slice A0 l0.length c0) := (((Below.refl w7.heap.size w7).alloc (Nat.le_refl _) _).cell (p := ⟨w.heap.size, 0, none⟩) S7).trans g3); (have q6 : (w7.alloc (.cells #[.slice A7 q.length c7] tb)).cell? ⟨w7.heap.size, 0, none⟩ = some (.slice A7 q.length c7) := by simp); (have q7 : Kd.C Kd.bool (w7.alloc (.cells #[.slice A7 q.length c7] tb)) A7 q.length q := Kd.C_below HO7 ((Below.refl w7.heap.size w7).alloc (Nat.le_refl _) _)); (have hle : w.heap.size ≤ (w7.alloc (.cells #[.slice A7 q.length c7] tb)).heap.size := by omega); (refine (deleteFunc24 v9 l1 26 #[.pointer (some ⟨w7.heap.size, 0, none⟩), .pointer (some ⟨w.heap.size, 0, none⟩)] (fun x => !(rdOf false q (hidAt l0 x))) w9 (w7.alloc (.cells #[.slice A7 q.length c7] tb)) _ hb.size HL ho hb (enters_of Try.func26 (by kernel_rfl) rfl) (fun W' x hx hb' => clearHidden1 x A0 c0 l0 A7 c7 q w7.heap.size w.heap.size (hidAt l0 x) W' ((hb'.cell (p := ⟨w7.heap.size, 0, none⟩) (by show w7.heap.size < _; omega)).trans q6) ((hb'.cell (p := ⟨w.heap.size, 0, none⟩) (by show w.heap.size < _; omega)).trans q2) (Kd.C_below HR0 (below_step hB8 hb')) HC0 (Kd.C_below q7 hb') rfl (HA x hx).1 (HA x hx).2)).mono ?_); (rintro e w' ⟨v1, rfl, h1, h2⟩); (refine ⟨v1, rfl, ?_, below_step hB8 h2⟩); (have e1 : l1.filter (fun x => !(!(rdOf false q (hidAt l0 x)))) = l1.filter (fun a => rdOf false q (hidAt l0 a)) := by congr 1; funext x; rw [Bool.not_not]); (rw [← e1]); (exact Kd.R_lower h1 hle)
set_option maxHeartbeats 4000000 in
set_option maxRecDepth 100000 in
theorem impl_ClearHidden.calls (k : Nat) (A0 : Option Addr) (c0 : Nat) (l0 : List (S49)) (A1 : Option Addr) (c1 : Nat) (l1 : List (S48)) (r1 : List (S48)) (r2 : Bool) (w : World) (hr0 : Kd.C k49 w A0 l0.length l0) (hc0 : l0.length ≤ c0) (hr1 : Kd.C k48 w A1 l1.length l1) (hc1 : l1.length ≤ c1) (h : impl_ClearHidden.f k l0 l1 = some (r1, r2)) :
  Calls Try.prog 9 #[.slice A0 l0.length c0, .slice A1 l1.length c1] w fun e w' => ∃ v0_ : Value, e = .returned (.tuple #[v0_, .bool r2]) ∧ Kd.R k48 48 w' w.heap.size (fun _ => True) v0_ r1 ∧ Below w.heap.size w w' := by
 (have HR0 := Aside0.mk hr0); (have HC0 := Aside0.mk hc0); (have HR1 := Aside0.mk hr1); (have HC1 := Aside0.mk hc1); clear hr0 hc0 hr1 hc1; (have HB := Aside0.mk (Below.refl w.heap.size w)); (unfold impl_ClearHidden.f at h); (have H := h); clear h; (replace H := obS H; obtain ⟨t101, A3, H⟩ := H); (by_cases c4 : t101 = true)
 ·subst c4
  (rw [if_pos rfl] at H); (replace H := obS H; obtain ⟨q, A5, H⟩ := H); (by_cases c6 : hidOk l0 l1 q = true)
  case neg => rw [if_neg c6] at H; exact absurd H (by simp)
  (rw [if_pos c6] at H); (simp only [Option.some.injEq, Prod.mk.injEq] at H); (obtain ⟨HQ, rfl⟩ := H); (have HH := Aside0.mk HQ); clear HQ; (unfold hidOk at c6); (rw [Bool.and_eq_true, decide_eq_true_eq, List.all_eq_true] at c6); (have HL := Aside0.mk c6.1); (have HA := Aside0.mk (fun a (ha : a ∈ l1) => by have := c6.2 a ha; rw [Bool.and_eq_true, decide_eq_true_eq, decide_eq_true_eq] at this; exact this : ∀ a ∈ l1, 0 ≤ hidAt l0 a ∧ hidAt l0 a < (q.length : Int))); clear c6; (go_enter Try.func9, Try.ntmps9); (go_wp2_with (first | (go_at_call 22; refine (impl_IsValidAnswers.calls k _ _ l0 _ _ l1 true _ ?side1 ?side2 ?side3 ?side4 A3.out).mono ?_; (case side1 => exact Kd.C_below HR0.out (by repeat (first | exact HB.out | apply bA | apply bN | apply bD))); (case side2 => exact HC0.out); (case side3 => exact Kd.C_below HR1.out (by repeat (first | exact HB.out | apply bA | apply bN | apply bD))); (case side4 => exact HC1.out); rintro e w6 ⟨rfl, hb⟩; have HB6 := Aside0.mk (below_step (by repeat (first | exact HB.out | apply bA | apply bN | apply bD)) hb); have g2 : w6.cell? ⟨w.heap.size, 0, none⟩ = some (.slice A0 l0.length c0) := (hb.cell (p := ⟨w.heap.size, 0, none⟩) (by simp)).trans (by simp); have S6 := Aside0.mk (Nat.lt_of_lt_of_le (by simp : w.heap.size < _) hb.size); clear hb) | (go_at_call 23; refine (impl_visible.calls k _ _ l0 _ _ l1 q _ ?side1 ?side2 ?side3 ?side4 A5.out).mono ?_; (case side1 => exact Kd.C_below HR0.out (by repeat (first | exact HB6.out | apply bA | apply bN | apply bD))); (case side2 => exact HC0.out); (case side3 => exact Kd.C_below HR1.out (by repeat (first | exact HB6.out | apply bA | apply bN | apply bD))); (case side4 => exact HC1.out); rintro e w7 ⟨v7, rfl, ho, hb⟩; obtain ⟨A7, c7, rfl⟩ := Kd.R_slice ho; have HB7 := Aside0.mk (below_step (by repeat (first | exact HB6.out | apply bA | apply bN | apply bD)) hb); have HO7 := Aside0.mk (Kd.R_reads' ho).2.2; have g3 := Aside0.mk ((hb.cell (p := ⟨w.heap.size, 0, none⟩) S6.out).trans g2); have S7 := Aside0.mk (Nat.lt_of_lt_of_le S6.out hb.size); clear hb ho) | (go_at_call 25; refine (impl_Answer.calls _ _ l1 l1 _ ?side1 HC1.out ?side3).mono ?_; (case side1 => exact Kd.C_below HR1.out (by repeat (first | exact HB7.out | apply bA | apply bN | apply bD))); (case side3 => unfold impl_Answer.f; rw [if_pos HL.out]); rintro e w9 ⟨v9, rfl, ho, hb⟩; have D9 := Aside0.mk (clearHiddenD v9 A0 c0 l0 l1 A7 c7 q w w7 w9 HB7.out S7.out g3.out HR0.out HC0.out HO7.out HL.out HA.out ho hb); clear hb ho) | (go_at_call 24; refine D9.out.mono ?_; rintro e w10 ⟨v10, rfl, ho, hb⟩; have HO10 := Aside0.mk ho; have HB10 := Aside0.mk hb; clear ho hb))); (go_ret2); (exact ⟨_, rfl, HH.out ▸ HO10.out, HB10.out⟩)
 ·replace c4 := Bool.eq_false_iff.mpr c4
  subst c4; (rw [if_neg (show ¬ (false = true) by decide)] at H); (simp only [Option.some.injEq, Prod.mk.injEq] at H); (obtain ⟨rfl, rfl⟩ := H); (go_enter Try.func9, Try.ntmps9); (go_wp2_with (go_at_call 22; refine (impl_IsValidAnswers.calls k _ _ l0 _ _ l1 false _ ?side1 ?side2 ?side3 ?side4 A3.out).mono ?_; (case side1 => exact Kd.C_below HR0.out (by repeat (first | exact HB.out | apply bA | apply bN | apply bD))); (case side2 => exact HC0.out); (case side3 => exact Kd.C_below HR1.out (by repeat (first | exact HB.out | apply bA | apply bN | apply bD))); (case side4 => exact HC1.out); rintro e w6 ⟨rfl, hb⟩; have HB6 := Aside0.mk (below_step (by repeat (first | exact HB.out | apply bA | apply bN | apply bD)) hb); clear hb)); (go_ret2); (exact ⟨_, rfl, Kd.R_nil _ _ _ _ _, HB6.out⟩)

end Go.Proofs.Ytcjloeeomhiblaa.X
namespace Go.Proofs.Ytcjloeeomhiblaa.X
open Go.RowKit Go.Proofs.YtcjloeeomhiblaaW.PrintWords Go.Proofs.YtcjloeeomhiblaaW.PrintLast Go.Proofs.YtcjloeeomhiblaaW.PrintMore
set_option linter.unusedVariables false
set_option linter.unusedSimpArgs false
def laws_FnExactClearHidden.f (k : Nat) (l0 : List (S40)) (l1 : List (S43)) : Option Bool := (laws_szFieldS.f k l0 1048576).bind fun t1 => if t1 < 0 then some true else (laws_szAnswerS.f k l1 t1).bind fun t6 => if t6 < 0 then some true else (laws_toFieldS.f k l0).bind fun t11 => (laws_toAnswerS.f k l1).bind fun t24 => (spec_ClearHidden.f k t11 t24).bind fun ⟨t37, t38⟩ => (laws_toFieldS.f k l0).bind fun t53 => (laws_toAnswerS.f k l1).bind fun t66 => (impl_ClearHidden.f k t53 t66).bind fun ⟨t79, t80⟩ => (laws_eqAnswerS.f k t79 t37).bind fun t95 => if t95 = true then if t80 = t38 then (laws_toFieldS.f k l0).bind fun t102 => (laws_eqFieldS.f k t53 t102).bind fun t115 => if t115 = true then (laws_toAnswerS.f k l1).bind fun t122 => (laws_eqAnswerS.f k t66 t122).bind fun t135 => if t135 = true then (laws_markFieldS.f k t53 1).bind fun ⟨t142, t143⟩ => (laws_markAnswerS.f k t66 t142).bind fun ⟨t148, t149⟩ => if ¬ t148 < 0 then (laws_eqAnswerS.f k t79 t37).bind fun t154 => if t154 = true then if t80 = t38 then (laws_markAnswerS.f k t79 1).bind fun ⟨t161, t162⟩ => (laws_heldAnswerS.f k t162 1).bind fun t167 => if ¬ t167 < 0 then if t167 = t161 then (laws_toFieldS.f k l0).bind fun t172 => (laws_toAnswerS.f k l1).bind fun t185 => (impl_ClearHidden.f k t172 t185).bind fun ⟨t198, t199⟩ => (laws_eqAnswerS.f k t198 t37).bind fun t214 => if t214 = true then if t199 = t38 then (laws_heldAnswerS.f k t162 1).bind fun t221 => if ¬ t221 < 0 then if t221 = t161 then some true else none else none else none else none else none else none else none else none else none else none else none else none else none
set_option maxHeartbeats 8000000 in
set_option maxRecDepth 100000 in
theorem laws_FnExactClearHidden.calls (k : Nat) (A0 : Option Addr) (c0 : Nat) (l0 : List (S40)) (A1 : Option Addr) (c1 : Nat) (l1 : List (S43)) (r : Bool) (w : World) (hr0 : Kd.C k40 w A0 l0.length l0) (hc0 : l0.length ≤ c0) (hr1 : Kd.C k43 w A1 l1.length l1) (hc1 : l1.length ≤ c1) (h : laws_FnExactClearHidden.f k l0 l1 = some r) :
  Calls Try.prog 3 #[.slice A0 l0.length c0, .slice A1 l1.length c1] w fun e w' => e = .returned (.bool r) ∧ Below w.heap.size w w' := by
 have HR0 := Aside0.mk hr0
 have HC0 := Aside0.mk hc0
 clear hr0 hc0
 have HR1 := Aside0.mk hr1
 have HC1 := Aside0.mk hc1
 clear hr1 hc1
 have HB := Aside0.mk (Below.refl w.heap.size w)
 have HS := Aside0.mk (Nat.le_refl w.heap.size)
 unfold laws_FnExactClearHidden.f at h
 have H := h
 clear h
 replace H := obS H; obtain ⟨t1, A_2, H⟩ := H
 by_cases c226 : t1 < 0
 ·rw [if_pos c226] at H
  have c226b := decide_eq_true c226
  clear c226
  obtain rfl := Option.some.inj H
  go_enter Try.func3, Try.ntmps3
  go_wp2_with (first | ((with_reducible refine gate_callee (f := 4) rfl ?_); refine gL (some 19) Try.func4 #[.slice A0 l0.length c0, .int .i64 1048576] ?_; (with_reducible refine (laws_szFieldS.calls k _ _ _ _ _ _ ?s_4 ?s_5 A_2.out).mono ?_); (case s_4 => exact Kd.C_below HR0.out (eI HB)); (case s_5 => exact HC0.out); rintro e w_3 ⟨rfl, hb⟩; refine ⟨_, rfl, ?_⟩; have n0_ := Aside0.mk (sI hb HB); have n1_ := Aside0.mk (leI hb HS); clear HB HS; have HB := n0_; have HS := n1_; clear n0_ n1_ hb))
  go_ret
  exact ⟨rfl, eI HB⟩
 rw [if_neg c226] at H
 have c226b := decide_eq_false c226
 clear c226
 replace H := obS H; obtain ⟨t6, A_7, H⟩ := H
 by_cases c227 : t6 < 0
 ·rw [if_pos c227] at H
  have c227b := decide_eq_true c227
  clear c227
  obtain rfl := Option.some.inj H
  go_enter Try.func3, Try.ntmps3
  go_wp2_with (first | ((with_reducible refine gate_callee (f := 4) rfl ?_); refine gL (some 19) Try.func4 #[.slice A0 l0.length c0, .int .i64 1048576] ?_; (with_reducible refine (laws_szFieldS.calls k _ _ _ _ _ _ ?s_4 ?s_5 A_2.out).mono ?_); (case s_4 => exact Kd.C_below HR0.out (eI HB)); (case s_5 => exact HC0.out); rintro e w_3 ⟨rfl, hb⟩; refine ⟨_, rfl, ?_⟩; have n0_ := Aside0.mk (sI hb HB); have n1_ := Aside0.mk (leI hb HS); clear HB HS; have HB := n0_; have HS := n1_; clear n0_ n1_ hb) | ((with_reducible refine gate_callee (f := 5) rfl ?_); refine gL (some 24) Try.func5 #[.slice A1 l1.length c1, .int .i64 t1] ?_; (with_reducible refine (laws_szAnswerS.calls k _ _ _ _ _ _ ?s_9 ?s_10 A_7.out).mono ?_); (case s_9 => exact Kd.C_below HR1.out (eI HB)); (case s_10 => exact HC1.out); rintro e w_8 ⟨rfl, hb⟩; refine ⟨_, rfl, ?_⟩; have n0_ := Aside0.mk (sI hb HB); have n1_ := Aside0.mk (leI hb HS); clear HB HS; have HB := n0_; have HS := n1_; clear n0_ n1_ hb))
  go_ret
  exact ⟨rfl, eI HB⟩
 rw [if_neg c227] at H
 have c227b := decide_eq_false c227
 clear c227
 replace H := obS H; obtain ⟨t11, A_12, H⟩ := H
 replace H := obS H; obtain ⟨t24, A_25, H⟩ := H
 replace H := obS H; obtain ⟨⟨t37, t38⟩, A_39, H⟩ := H
 replace H := obS H; obtain ⟨t53, A_54, H⟩ := H
 replace H := obS H; obtain ⟨t66, A_67, H⟩ := H
 replace H := obS H; obtain ⟨⟨t79, t80⟩, A_81, H⟩ := H
 replace H := obS H; obtain ⟨t95, A_96, H⟩ := H
 replace H := needS H; obtain ⟨c228, H⟩ := H
 subst c228
 replace H := needS H; obtain ⟨c229, H⟩ := H
 have c229b := bne_eq_false_iff_eq.mpr c229
 have c229d := beq_iff_eq.mpr c229
 clear c229
 replace H := obS H; obtain ⟨t102, A_103, H⟩ := H
 replace H := obS H; obtain ⟨t115, A_116, H⟩ := H
 replace H := needS H; obtain ⟨c230, H⟩ := H
 subst c230
 replace H := obS H; obtain ⟨t122, A_123, H⟩ := H
 replace H := obS H; obtain ⟨t135, A_136, H⟩ := H
 replace H := needS H; obtain ⟨c231, H⟩ := H
 subst c231
 replace H := obS H; obtain ⟨⟨t142, t143⟩, A_144, H⟩ := H
 replace H := obS H; obtain ⟨⟨t148, t149⟩, A_150, H⟩ := H
 replace H := needS H; obtain ⟨c232, H⟩ := H
 have c232b := decide_eq_false c232
 clear c232
 replace H := obS H; obtain ⟨t154, A_155, H⟩ := H
 replace H := needS H; obtain ⟨c233, H⟩ := H
 subst c233
 replace H := needS H; obtain ⟨c234, H⟩ := H
 have c234b := bne_eq_false_iff_eq.mpr c234
 have c234d := beq_iff_eq.mpr c234
 clear c234
 replace H := obS H; obtain ⟨⟨t161, t162⟩, A_163, H⟩ := H
 replace H := obS H; obtain ⟨t167, A_168, H⟩ := H
 replace H := needS H; obtain ⟨c235, H⟩ := H
 have c235b := decide_eq_false c235
 clear c235
 replace H := needS H; obtain ⟨c236, H⟩ := H
 have c236b := bne_eq_false_iff_eq.mpr c236
 have c236d := beq_iff_eq.mpr c236
 clear c236
 replace H := obS H; obtain ⟨t172, A_173, H⟩ := H
 replace H := obS H; obtain ⟨t185, A_186, H⟩ := H
 replace H := obS H; obtain ⟨⟨t198, t199⟩, A_200, H⟩ := H
 replace H := obS H; obtain ⟨t214, A_215, H⟩ := H
 replace H := needS H; obtain ⟨c237, H⟩ := H
 subst c237
 replace H := needS H; obtain ⟨c238, H⟩ := H
 have c238b := bne_eq_false_iff_eq.mpr c238
 have c238d := beq_iff_eq.mpr c238
 clear c238
 replace H := obS H; obtain ⟨t221, A_222, H⟩ := H
 replace H := needS H; obtain ⟨c239, H⟩ := H
 have c239b := decide_eq_false c239
 clear c239
 replace H := needS H; obtain ⟨c240, H⟩ := H
 have c240b := bne_eq_false_iff_eq.mpr c240
 have c240d := beq_iff_eq.mpr c240
 clear c240
 obtain rfl := Option.some.inj H
 go_enter Try.func3, Try.ntmps3
 go_wp2_with (first | ((with_reducible refine gate_callee (f := 4) rfl ?_); refine gL (some 19) Try.func4 #[.slice A0 l0.length c0, .int .i64 1048576] ?_; (with_reducible refine (laws_szFieldS.calls k _ _ _ _ _ _ ?s_4 ?s_5 A_2.out).mono ?_); (case s_4 => exact Kd.C_below HR0.out (eI HB)); (case s_5 => exact HC0.out); rintro e w_3 ⟨rfl, hb⟩; refine ⟨_, rfl, ?_⟩; have n0_ := Aside0.mk (sI hb HB); have n1_ := Aside0.mk (leI hb HS); clear HB HS; have HB := n0_; have HS := n1_; clear n0_ n1_ hb) | ((with_reducible refine gate_callee (f := 5) rfl ?_); refine gL (some 24) Try.func5 #[.slice A1 l1.length c1, .int .i64 t1] ?_; (with_reducible refine (laws_szAnswerS.calls k _ _ _ _ _ _ ?s_9 ?s_10 A_7.out).mono ?_); (case s_9 => exact Kd.C_below HR1.out (eI HB)); (case s_10 => exact HC1.out); rintro e w_8 ⟨rfl, hb⟩; refine ⟨_, rfl, ?_⟩; have n0_ := Aside0.mk (sI hb HB); have n1_ := Aside0.mk (leI hb HS); clear HB HS; have HB := n0_; have HS := n1_; clear n0_ n1_ hb) | ((with_reducible refine gate_callee (f := 7) rfl ?_); refine gL (some 29) Try.func7 #[.slice A0 l0.length c0] ?_; (with_reducible refine (laws_toFieldS.calls k _ _ _ _ _ ?s_14 ?s_15 A_12.out).mono ?_); (case s_14 => exact Kd.C_below HR0.out (eI HB)); (case s_15 => exact HC0.out); rintro e w_13 ⟨v17, rfl, ho16, hb⟩; refine ⟨_, rfl, ?_⟩; obtain ⟨lo18, hi19, hle_, hsz_, hin_⟩ := newRng HB HS hb; have ho_0 := Aside0.mk (hin_.s ho16); have n0_ := Aside0.mk (sI hb HB); have n1_ := Aside0.mk (hsz_); clear HB HS; have HB := n0_; have HS := n1_; clear n0_ n1_ hb; have HE20 := Aside0.mk hle_; clear hle_ hsz_ hin_ ho16; have HO23 := ho_0; clear ho_0; obtain ⟨Ao21, co22, e_⟩ := Kd.R_slice (Kd.S_R HO23.out); subst e_) | ((with_reducible refine gate_callee (f := 8) rfl ?_); refine gL (some 31) Try.func8 #[.slice A1 l1.length c1] ?_; (with_reducible refine (laws_toAnswerS.calls k _ _ _ _ _ ?s_27 ?s_28 A_25.out).mono ?_); (case s_27 => exact Kd.C_below HR1.out (eI HB)); (case s_28 => exact HC1.out); rintro e w_26 ⟨v30, rfl, ho29, hb⟩; refine ⟨_, rfl, ?_⟩; obtain ⟨lo31, hi32, hle_, hsz_, hin_⟩ := newRng HB HS hb; have ho_0 := Aside0.mk (hin_.r ho29); have n0_ := Aside0.mk (sbI hb HO23); have n1_ := Aside0.mk (sI hb HB); have n2_ := Aside0.mk (hsz_); clear HO23 HB HS; have HO23 := n0_; have HB := n1_; have HS := n2_; clear n0_ n1_ n2_ hb; have HE33 := Aside0.mk hle_; clear hle_ hsz_ hin_ ho29; have HO36 := ho_0; clear ho_0; obtain ⟨Ao34, co35, e_⟩ := Kd.R_slice (HO36.out); subst e_) | ((with_reducible refine gate_callee (f := 6) rfl ?_); refine gL (some 32) Try.func6 #[.slice Ao21 t11.length co22, .slice Ao34 t24.length co35] ?_; (with_reducible refine (spec_ClearHidden.calls k _ _ _ _ _ _ _ _ _ ?s_41 ?s_42 ?s_43 ?s_44 A_39.out).mono ?_); (case s_41 => exact (scI HO23).1); (case s_42 => exact (scR HO23).2); (case s_43 => exact (rcI HO36).1); (case s_44 => exact (rcR HO36).2); rintro e w_40 ⟨v46, rfl, ho45, hb⟩; refine ⟨_, rfl, ?_⟩; obtain ⟨lo47, hi48, hle_, hsz_, hin_⟩ := newRng HB HS hb; have ho_0 := Aside0.mk (hin_.r ho45); have n0_ := Aside0.mk (sbI hb HO23); have n1_ := Aside0.mk (rbI hb HO36); have n2_ := Aside0.mk (sI hb HB); have n3_ := Aside0.mk (hsz_); clear HO23 HO36 HB HS; have HO23 := n0_; have HO36 := n1_; have HB := n2_; have HS := n3_; clear n0_ n1_ n2_ n3_ hb; have HE49 := Aside0.mk hle_; clear hle_ hsz_ hin_ ho45; have HO52 := ho_0; clear ho_0; obtain ⟨Ao50, co51, e_⟩ := Kd.R_slice (HO52.out); subst e_) | ((with_reducible refine gate_callee (f := 7) rfl ?_); refine gL (some 36) Try.func7 #[.slice A0 l0.length c0] ?_; (with_reducible refine (laws_toFieldS.calls k _ _ _ _ _ ?s_56 ?s_57 A_54.out).mono ?_); (case s_56 => exact Kd.C_below HR0.out (eI HB)); (case s_57 => exact HC0.out); rintro e w_55 ⟨v59, rfl, ho58, hb⟩; refine ⟨_, rfl, ?_⟩; obtain ⟨lo60, hi61, hle_, hsz_, hin_⟩ := newRng HB HS hb; have ho_0 := Aside0.mk (hin_.s ho58); have n0_ := Aside0.mk (sbI hb HO23); have n1_ := Aside0.mk (rbI hb HO36); have n2_ := Aside0.mk (rbI hb HO52); have n3_ := Aside0.mk (sI hb HB); have n4_ := Aside0.mk (hsz_); clear HO23 HO36 HO52 HB HS; have HO23 := n0_; have HO36 := n1_; have HO52 := n2_; have HB := n3_; have HS := n4_; clear n0_ n1_ n2_ n3_ n4_ hb; have HE62 := Aside0.mk hle_; clear hle_ hsz_ hin_ ho58; have HO65 := ho_0; clear ho_0; obtain ⟨Ao63, co64, e_⟩ := Kd.R_slice (Kd.S_R HO65.out); subst e_) | ((with_reducible refine gate_callee (f := 8) rfl ?_); refine gL (some 38) Try.func8 #[.slice A1 l1.length c1] ?_; (with_reducible refine (laws_toAnswerS.calls k _ _ _ _ _ ?s_69 ?s_70 A_67.out).mono ?_); (case s_69 => exact Kd.C_below HR1.out (eI HB)); (case s_70 => exact HC1.out); rintro e w_68 ⟨v72, rfl, ho71, hb⟩; refine ⟨_, rfl, ?_⟩; obtain ⟨lo73, hi74, hle_, hsz_, hin_⟩ := newRng HB HS hb; have ho_0 := Aside0.mk (hin_.r ho71); have n0_ := Aside0.mk (sbI hb HO23); have n1_ := Aside0.mk (rbI hb HO36); have n2_ := Aside0.mk (rbI hb HO52); have n3_ := Aside0.mk (sbI hb HO65); have n4_ := Aside0.mk (sI hb HB); have n5_ := Aside0.mk (hsz_); clear HO23 HO36 HO52 HO65 HB HS; have HO23 := n0_; have HO36 := n1_; have HO52 := n2_; have HO65 := n3_; have HB := n4_; have HS := n5_; clear n0_ n1_ n2_ n3_ n4_ n5_ hb; have HE75 := Aside0.mk hle_; clear hle_ hsz_ hin_ ho71; have HO78 := ho_0; clear ho_0; obtain ⟨Ao76, co77, e_⟩ := Kd.R_slice (HO78.out); subst e_) | ((with_reducible refine gate_callee (f := 9) rfl ?_); refine gL (some 42) Try.func9 #[.slice Ao63 t53.length co64, .slice Ao76 t66.length co77] ?_; (with_reducible refine (impl_ClearHidden.calls k _ _ _ _ _ _ _ _ _ ?s_83 ?s_84 ?s_85 ?s_86 A_81.out).mono ?_); (case s_83 => exact (scI HO65).1); (case s_84 => exact (scR HO65).2); (case s_85 => exact (rcI HO78).1); (case s_86 => exact (rcR HO78).2); rintro e w_82 ⟨v88, rfl, ho87, hb⟩; refine ⟨_, rfl, ?_⟩; obtain ⟨lo89, hi90, hle_, hsz_, hin_⟩ := newRng HB HS hb; have ho_0 := Aside0.mk (hin_.r ho87); have n0_ := Aside0.mk (sbI hb HO23); have n1_ := Aside0.mk (rbI hb HO36); have n2_ := Aside0.mk (rbI hb HO52); have n3_ := Aside0.mk (sbI hb HO65); have n4_ := Aside0.mk (rbI hb HO78); have n5_ := Aside0.mk (sI hb HB); have n6_ := Aside0.mk (hsz_); clear HO23 HO36 HO52 HO65 HO78 HB HS; have HO23 := n0_; have HO36 := n1_; have HO52 := n2_; have HO65 := n3_; have HO78 := n4_; have HB := n5_; have HS := n6_; clear n0_ n1_ n2_ n3_ n4_ n5_ n6_ hb; have HE91 := Aside0.mk hle_; clear hle_ hsz_ hin_ ho87; have HO94 := ho_0; clear ho_0; obtain ⟨Ao92, co93, e_⟩ := Kd.R_slice (HO94.out); subst e_) | ((with_reducible refine gate_callee (f := 10) rfl ?_); refine gL (some 47) Try.func10 #[.slice Ao92 t79.length co93, .slice Ao50 t37.length co51] ?_; (with_reducible refine (laws_eqAnswerS.calls k _ _ _ _ _ _ _ _ ?s_98 ?s_99 ?s_100 ?s_101 A_96.out ⟨rfl⟩).mono ?_); (case s_98 => exact (rcI HO94).1); (case s_99 => exact (rcR HO94).2); (case s_100 => exact (rcI HO52).1); (case s_101 => exact (rcR HO52).2); rintro e w_97 ⟨rfl, hb⟩; refine ⟨_, rfl, ?_⟩; have n0_ := Aside0.mk (sbI hb HO23); have n1_ := Aside0.mk (rbI hb HO36); have n2_ := Aside0.mk (rbI hb HO52); have n3_ := Aside0.mk (sbI hb HO65); have n4_ := Aside0.mk (rbI hb HO78); have n5_ := Aside0.mk (rbI hb HO94); have n6_ := Aside0.mk (sI hb HB); have n7_ := Aside0.mk (leI hb HS); clear HO23 HO36 HO52 HO65 HO78 HO94 HB HS; have HO23 := n0_; have HO36 := n1_; have HO52 := n2_; have HO65 := n3_; have HO78 := n4_; have HO94 := n5_; have HB := n6_; have HS := n7_; clear n0_ n1_ n2_ n3_ n4_ n5_ n6_ n7_ hb) | ((with_reducible refine gate_callee (f := 7) rfl ?_); refine gL (some 56) Try.func7 #[.slice A0 l0.length c0] ?_; (with_reducible refine (laws_toFieldS.calls k _ _ _ _ _ ?s_105 ?s_106 A_103.out).mono ?_); (case s_105 => exact Kd.C_below HR0.out (eI HB)); (case s_106 => exact HC0.out); rintro e w_104 ⟨v108, rfl, ho107, hb⟩; refine ⟨_, rfl, ?_⟩; obtain ⟨lo109, hi110, hle_, hsz_, hin_⟩ := newRng HB HS hb; have ho_0 := Aside0.mk (hin_.s ho107); have n0_ := Aside0.mk (sbI hb HO23); have n1_ := Aside0.mk (rbI hb HO36); have n2_ := Aside0.mk (rbI hb HO52); have n3_ := Aside0.mk (sbI hb HO65); have n4_ := Aside0.mk (rbI hb HO78); have n5_ := Aside0.mk (rbI hb HO94); have n6_ := Aside0.mk (sI hb HB); have n7_ := Aside0.mk (hsz_); clear HO23 HO36 HO52 HO65 HO78 HO94 HB HS; have HO23 := n0_; have HO36 := n1_; have HO52 := n2_; have HO65 := n3_; have HO78 := n4_; have HO94 := n5_; have HB := n6_; have HS := n7_; clear n0_ n1_ n2_ n3_ n4_ n5_ n6_ n7_ hb; have HE111 := Aside0.mk hle_; clear hle_ hsz_ hin_ ho107; have HO114 := ho_0; clear ho_0; obtain ⟨Ao112, co113, e_⟩ := Kd.R_slice (Kd.S_R HO114.out); subst e_) | ((with_reducible refine gate_callee (f := 11) rfl ?_); refine gL (some 57) Try.func11 #[.slice Ao63 t53.length co64, .slice Ao112 t102.length co113] ?_; (with_reducible refine (laws_eqFieldS.calls k _ _ _ _ _ _ _ _ ?s_118 ?s_119 ?s_120 ?s_121 A_116.out ⟨rfl⟩).mono ?_); (case s_118 => exact (scI HO65).1); (case s_119 => exact (scR HO65).2); (case s_120 => exact (scI HO114).1); (case s_121 => exact (scR HO114).2); rintro e w_117 ⟨rfl, hb⟩; refine ⟨_, rfl, ?_⟩; have n0_ := Aside0.mk (sbI hb HO23); have n1_ := Aside0.mk (rbI hb HO36); have n2_ := Aside0.mk (rbI hb HO52); have n3_ := Aside0.mk (sbI hb HO65); have n4_ := Aside0.mk (rbI hb HO78); have n5_ := Aside0.mk (rbI hb HO94); have n6_ := Aside0.mk (sbI hb HO114); have n7_ := Aside0.mk (sI hb HB); have n8_ := Aside0.mk (leI hb HS); clear HO23 HO36 HO52 HO65 HO78 HO94 HO114 HB HS; have HO23 := n0_; have HO36 := n1_; have HO52 := n2_; have HO65 := n3_; have HO78 := n4_; have HO94 := n5_; have HO114 := n6_; have HB := n7_; have HS := n8_; clear n0_ n1_ n2_ n3_ n4_ n5_ n6_ n7_ n8_ hb) | ((with_reducible refine gate_callee (f := 8) rfl ?_); refine gL (some 61) Try.func8 #[.slice A1 l1.length c1] ?_; (with_reducible refine (laws_toAnswerS.calls k _ _ _ _ _ ?s_125 ?s_126 A_123.out).mono ?_); (case s_125 => exact Kd.C_below HR1.out (eI HB)); (case s_126 => exact HC1.out); rintro e w_124 ⟨v128, rfl, ho127, hb⟩; refine ⟨_, rfl, ?_⟩; obtain ⟨lo129, hi130, hle_, hsz_, hin_⟩ := newRng HB HS hb; have ho_0 := Aside0.mk (hin_.r ho127); have n0_ := Aside0.mk (sbI hb HO23); have n1_ := Aside0.mk (rbI hb HO36); have n2_ := Aside0.mk (rbI hb HO52); have n3_ := Aside0.mk (sbI hb HO65); have n4_ := Aside0.mk (rbI hb HO78); have n5_ := Aside0.mk (rbI hb HO94); have n6_ := Aside0.mk (sbI hb HO114); have n7_ := Aside0.mk (sI hb HB); have n8_ := Aside0.mk (hsz_); clear HO23 HO36 HO52 HO65 HO78 HO94 HO114 HB HS; have HO23 := n0_; have HO36 := n1_; have HO52 := n2_; have HO65 := n3_; have HO78 := n4_; have HO94 := n5_; have HO114 := n6_; have HB := n7_; have HS := n8_; clear n0_ n1_ n2_ n3_ n4_ n5_ n6_ n7_ n8_ hb; have HE131 := Aside0.mk hle_; clear hle_ hsz_ hin_ ho127; have HO134 := ho_0; clear ho_0; obtain ⟨Ao132, co133, e_⟩ := Kd.R_slice (HO134.out); subst e_) | ((with_reducible refine gate_callee (f := 10) rfl ?_); refine gL (some 62) Try.func10 #[.slice Ao76 t66.length co77, .slice Ao132 t122.length co133] ?_; (with_reducible refine (laws_eqAnswerS.calls k _ _ _ _ _ _ _ _ ?s_138 ?s_139 ?s_140 ?s_141 A_136.out ⟨rfl⟩).mono ?_); (case s_138 => exact (rcI HO78).1); (case s_139 => exact (rcR HO78).2); (case s_140 => exact (rcI HO134).1); (case s_141 => exact (rcR HO134).2); rintro e w_137 ⟨rfl, hb⟩; refine ⟨_, rfl, ?_⟩; have n0_ := Aside0.mk (sbI hb HO23); have n1_ := Aside0.mk (rbI hb HO36); have n2_ := Aside0.mk (rbI hb HO52); have n3_ := Aside0.mk (sbI hb HO65); have n4_ := Aside0.mk (rbI hb HO78); have n5_ := Aside0.mk (rbI hb HO94); have n6_ := Aside0.mk (sbI hb HO114); have n7_ := Aside0.mk (rbI hb HO134); have n8_ := Aside0.mk (sI hb HB); have n9_ := Aside0.mk (leI hb HS); clear HO23 HO36 HO52 HO65 HO78 HO94 HO114 HO134 HB HS; have HO23 := n0_; have HO36 := n1_; have HO52 := n2_; have HO65 := n3_; have HO78 := n4_; have HO94 := n5_; have HO114 := n6_; have HO134 := n7_; have HB := n8_; have HS := n9_; clear n0_ n1_ n2_ n3_ n4_ n5_ n6_ n7_ n8_ n9_ hb) | ((with_reducible refine gate_callee (f := 12) rfl ?_); refine gL (some 66) Try.func12 #[.slice Ao63 t53.length co64, .int .i64 1] ?_; (with_reducible refine (laws_markFieldS.calls k (fun k_ => lo60 ≤ k_ ∧ k_ < hi61) _ _ _ _ _ w _ (eI HB) (sbI0 HO65) A_144.out).mono ?_); rintro e w_145 ⟨rfl, ho146, hb, hk⟩; refine ⟨_, rfl, ?_⟩; have hkp := keptRng (lo := lo60) (hi := hi61) hk (fun k_ h_ => by first | exact h_ | exact h_.elim id id); clear HO65; have n0_ := Aside0.mk (ksI hkp HO23 (by have h0_ := HE20.out; have h1_ := HE33.out; have h2_ := HE49.out; have h3_ := HE62.out; have h4_ := HE75.out; have h5_ := HE91.out; have h6_ := HE111.out; have h7_ := HE131.out; omega)); have n1_ := Aside0.mk (krI hkp HO36 (by have h0_ := HE20.out; have h1_ := HE33.out; have h2_ := HE49.out; have h3_ := HE62.out; have h4_ := HE75.out; have h5_ := HE91.out; have h6_ := HE111.out; have h7_ := HE131.out; omega)); have n2_ := Aside0.mk (krI hkp HO52 (by have h0_ := HE20.out; have h1_ := HE33.out; have h2_ := HE49.out; have h3_ := HE62.out; have h4_ := HE75.out; have h5_ := HE91.out; have h6_ := HE111.out; have h7_ := HE131.out; omega)); have n3_ := Aside0.mk (krI hkp HO78 (by have h0_ := HE20.out; have h1_ := HE33.out; have h2_ := HE49.out; have h3_ := HE62.out; have h4_ := HE75.out; have h5_ := HE91.out; have h6_ := HE111.out; have h7_ := HE131.out; omega)); have n4_ := Aside0.mk (krI hkp HO94 (by have h0_ := HE20.out; have h1_ := HE33.out; have h2_ := HE49.out; have h3_ := HE62.out; have h4_ := HE75.out; have h5_ := HE91.out; have h6_ := HE111.out; have h7_ := HE131.out; omega)); have n5_ := Aside0.mk (ksI hkp HO114 (by have h0_ := HE20.out; have h1_ := HE33.out; have h2_ := HE49.out; have h3_ := HE62.out; have h4_ := HE75.out; have h5_ := HE91.out; have h6_ := HE111.out; have h7_ := HE131.out; omega)); have n6_ := Aside0.mk (krI hkp HO134 (by have h0_ := HE20.out; have h1_ := HE33.out; have h2_ := HE49.out; have h3_ := HE62.out; have h4_ := HE75.out; have h5_ := HE91.out; have h6_ := HE111.out; have h7_ := HE131.out; omega)); have n7_ := Aside0.mk (hb); have n8_ := Aside0.mk (leK hk HS); clear HO23 HO36 HO52 HO78 HO94 HO114 HO134 HB HS; have HO23 := n0_; have HO36 := n1_; have HO52 := n2_; have HO78 := n3_; have HO94 := n4_; have HO114 := n5_; have HO134 := n6_; have HB := n7_; have HS := n8_; clear n0_ n1_ n2_ n3_ n4_ n5_ n6_ n7_ n8_ hb hk hkp ho146) | ((with_reducible refine gate_callee (f := 13) rfl ?_); refine gL (some 69) Try.func13 #[.slice Ao76 t66.length co77, .int .i64 t142] ?_; (with_reducible refine (laws_markAnswerS.calls k (fun k_ => lo73 ≤ k_ ∧ k_ < hi74) _ _ _ _ _ w _ (eI HB) (rI HO78) A_150.out).mono ?_); rintro e w_151 ⟨rfl, ho152, hb, hk⟩; refine ⟨_, rfl, ?_⟩; have hkp := keptRng (lo := lo73) (hi := hi74) hk (fun k_ h_ => by first | exact h_ | exact h_.elim id id); clear HO78; have n0_ := Aside0.mk (ksI hkp HO23 (by have h0_ := HE20.out; have h1_ := HE33.out; have h2_ := HE49.out; have h3_ := HE62.out; have h4_ := HE75.out; have h5_ := HE91.out; have h6_ := HE111.out; have h7_ := HE131.out; omega)); have n1_ := Aside0.mk (krI hkp HO36 (by have h0_ := HE20.out; have h1_ := HE33.out; have h2_ := HE49.out; have h3_ := HE62.out; have h4_ := HE75.out; have h5_ := HE91.out; have h6_ := HE111.out; have h7_ := HE131.out; omega)); have n2_ := Aside0.mk (krI hkp HO52 (by have h0_ := HE20.out; have h1_ := HE33.out; have h2_ := HE49.out; have h3_ := HE62.out; have h4_ := HE75.out; have h5_ := HE91.out; have h6_ := HE111.out; have h7_ := HE131.out; omega)); have n3_ := Aside0.mk (krI hkp HO94 (by have h0_ := HE20.out; have h1_ := HE33.out; have h2_ := HE49.out; have h3_ := HE62.out; have h4_ := HE75.out; have h5_ := HE91.out; have h6_ := HE111.out; have h7_ := HE131.out; omega)); have n4_ := Aside0.mk (ksI hkp HO114 (by have h0_ := HE20.out; have h1_ := HE33.out; have h2_ := HE49.out; have h3_ := HE62.out; have h4_ := HE75.out; have h5_ := HE91.out; have h6_ := HE111.out; have h7_ := HE131.out; omega)); have n5_ := Aside0.mk (krI hkp HO134 (by have h0_ := HE20.out; have h1_ := HE33.out; have h2_ := HE49.out; have h3_ := HE62.out; have h4_ := HE75.out; have h5_ := HE91.out; have h6_ := HE111.out; have h7_ := HE131.out; omega)); have n6_ := Aside0.mk (hb); have n7_ := Aside0.mk (leK hk HS); clear HO23 HO36 HO52 HO94 HO114 HO134 HB HS; have HO23 := n0_; have HO36 := n1_; have HO52 := n2_; have HO94 := n3_; have HO114 := n4_; have HO134 := n5_; have HB := n6_; have HS := n7_; clear n0_ n1_ n2_ n3_ n4_ n5_ n6_ n7_ hb hk hkp ho152) | ((with_reducible refine gate_callee (f := 10) rfl ?_); refine gate_guard (by first | rfl | kernel_rfl) ?_; refine gL (some 75) Try.func10 #[.slice Ao92 t79.length co93, .slice Ao50 t37.length co51] ?_; (with_reducible refine (laws_eqAnswerS.calls k _ _ _ _ _ _ _ _ ?s_157 ?s_158 ?s_159 ?s_160 A_155.out ⟨rfl⟩).mono ?_); (case s_157 => exact (rcI HO94).1); (case s_158 => exact (rcR HO94).2); (case s_159 => exact (rcI HO52).1); (case s_160 => exact (rcR HO52).2); rintro e w_156 ⟨rfl, hb⟩; refine ⟨_, rfl, ?_⟩; have n0_ := Aside0.mk (sbI hb HO23); have n1_ := Aside0.mk (rbI hb HO36); have n2_ := Aside0.mk (rbI hb HO52); have n3_ := Aside0.mk (rbI hb HO94); have n4_ := Aside0.mk (sbI hb HO114); have n5_ := Aside0.mk (rbI hb HO134); have n6_ := Aside0.mk (sI hb HB); have n7_ := Aside0.mk (leI hb HS); clear HO23 HO36 HO52 HO94 HO114 HO134 HB HS; have HO23 := n0_; have HO36 := n1_; have HO52 := n2_; have HO94 := n3_; have HO114 := n4_; have HO134 := n5_; have HB := n6_; have HS := n7_; clear n0_ n1_ n2_ n3_ n4_ n5_ n6_ n7_ hb) | ((with_reducible refine gate_callee (f := 13) rfl ?_); refine gL (some 85) Try.func13 #[.slice Ao92 t79.length co93, .int .i64 1] ?_; (with_reducible refine (laws_markAnswerS.calls k (fun k_ => lo89 ≤ k_ ∧ k_ < hi90) _ _ _ _ _ w _ (eI HB) (rI HO94) A_163.out).mono ?_); rintro e w_164 ⟨rfl, ho165, hb, hk⟩; refine ⟨_, rfl, ?_⟩; have hkp := keptRng (lo := lo89) (hi := hi90) hk (fun k_ h_ => by first | exact h_ | exact h_.elim id id); have n0_ := Aside0.mk (ksI hkp HO23 (by have h0_ := HE20.out; have h1_ := HE33.out; have h2_ := HE49.out; have h3_ := HE62.out; have h4_ := HE75.out; have h5_ := HE91.out; have h6_ := HE111.out; have h7_ := HE131.out; omega)); have n1_ := Aside0.mk (krI hkp HO36 (by have h0_ := HE20.out; have h1_ := HE33.out; have h2_ := HE49.out; have h3_ := HE62.out; have h4_ := HE75.out; have h5_ := HE91.out; have h6_ := HE111.out; have h7_ := HE131.out; omega)); have n2_ := Aside0.mk (krI hkp HO52 (by have h0_ := HE20.out; have h1_ := HE33.out; have h2_ := HE49.out; have h3_ := HE62.out; have h4_ := HE75.out; have h5_ := HE91.out; have h6_ := HE111.out; have h7_ := HE131.out; omega)); have n3_ := Aside0.mk (ksI hkp HO114 (by have h0_ := HE20.out; have h1_ := HE33.out; have h2_ := HE49.out; have h3_ := HE62.out; have h4_ := HE75.out; have h5_ := HE91.out; have h6_ := HE111.out; have h7_ := HE131.out; omega)); have n4_ := Aside0.mk (krI hkp HO134 (by have h0_ := HE20.out; have h1_ := HE33.out; have h2_ := HE49.out; have h3_ := HE62.out; have h4_ := HE75.out; have h5_ := HE91.out; have h6_ := HE111.out; have h7_ := HE131.out; omega)); have n5_ := Aside0.mk (Kd.R_mono (ok' := fun _ => True) ho165 (fun _ _ => trivial)); have n6_ := Aside0.mk (hb); have n7_ := Aside0.mk (leK hk HS); clear HO23 HO36 HO52 HO114 HO134 HO94 HB HS; have HO23 := n0_; have HO36 := n1_; have HO52 := n2_; have HO114 := n3_; have HO134 := n4_; have HO94 := n5_; have HB := n6_; have HS := n7_; clear n0_ n1_ n2_ n3_ n4_ n5_ n6_ n7_ hb hk hkp ho165) | ((with_reducible refine gate_callee (f := 14) rfl ?_); refine gL (some 88) Try.func14 #[.slice Ao92 t79.length co93, .int .i64 1] ?_; refine calls_of_args (args' := #[.slice Ao92 t162.length co93, .int .i64 1]) (by rw [← rlI HO94]) ?_; (with_reducible refine (laws_heldAnswerS.calls k _ _ _ _ _ _ ?s_170 ?s_171 A_168.out).mono ?_); (case s_170 => exact (rcI HO94).1); (case s_171 => exact (rcR HO94).2); rintro e w_169 ⟨rfl, hb⟩; refine ⟨_, rfl, ?_⟩; have n0_ := Aside0.mk (sbI hb HO23); have n1_ := Aside0.mk (rbI hb HO36); have n2_ := Aside0.mk (rbI hb HO52); have n3_ := Aside0.mk (rbI hb HO94); have n4_ := Aside0.mk (sbI hb HO114); have n5_ := Aside0.mk (rbI hb HO134); have n6_ := Aside0.mk (sI hb HB); have n7_ := Aside0.mk (leI hb HS); clear HO23 HO36 HO52 HO94 HO114 HO134 HB HS; have HO23 := n0_; have HO36 := n1_; have HO52 := n2_; have HO94 := n3_; have HO114 := n4_; have HO134 := n5_; have HB := n6_; have HS := n7_; clear n0_ n1_ n2_ n3_ n4_ n5_ n6_ n7_ hb) | ((with_reducible refine gate_callee (f := 7) rfl ?_); refine gL (some 96) Try.func7 #[.slice A0 l0.length c0] ?_; (with_reducible refine (laws_toFieldS.calls k _ _ _ _ _ ?s_175 ?s_176 A_173.out).mono ?_); (case s_175 => exact Kd.C_below HR0.out (eI HB)); (case s_176 => exact HC0.out); rintro e w_174 ⟨v178, rfl, ho177, hb⟩; refine ⟨_, rfl, ?_⟩; obtain ⟨lo179, hi180, hle_, hsz_, hin_⟩ := newRng HB HS hb; have ho_0 := Aside0.mk (hin_.s ho177); have n0_ := Aside0.mk (sbI hb HO23); have n1_ := Aside0.mk (rbI hb HO36); have n2_ := Aside0.mk (rbI hb HO52); have n3_ := Aside0.mk (rbI hb HO94); have n4_ := Aside0.mk (sbI hb HO114); have n5_ := Aside0.mk (rbI hb HO134); have n6_ := Aside0.mk (sI hb HB); have n7_ := Aside0.mk (hsz_); clear HO23 HO36 HO52 HO94 HO114 HO134 HB HS; have HO23 := n0_; have HO36 := n1_; have HO52 := n2_; have HO94 := n3_; have HO114 := n4_; have HO134 := n5_; have HB := n6_; have HS := n7_; clear n0_ n1_ n2_ n3_ n4_ n5_ n6_ n7_ hb; have HE181 := Aside0.mk hle_; clear hle_ hsz_ hin_ ho177; have HO184 := ho_0; clear ho_0; obtain ⟨Ao182, co183, e_⟩ := Kd.R_slice (Kd.S_R HO184.out); subst e_) | ((with_reducible refine gate_callee (f := 8) rfl ?_); refine gL (some 98) Try.func8 #[.slice A1 l1.length c1] ?_; (with_reducible refine (laws_toAnswerS.calls k _ _ _ _ _ ?s_188 ?s_189 A_186.out).mono ?_); (case s_188 => exact Kd.C_below HR1.out (eI HB)); (case s_189 => exact HC1.out); rintro e w_187 ⟨v191, rfl, ho190, hb⟩; refine ⟨_, rfl, ?_⟩; obtain ⟨lo192, hi193, hle_, hsz_, hin_⟩ := newRng HB HS hb; have ho_0 := Aside0.mk (hin_.r ho190); have n0_ := Aside0.mk (sbI hb HO23); have n1_ := Aside0.mk (rbI hb HO36); have n2_ := Aside0.mk (rbI hb HO52); have n3_ := Aside0.mk (rbI hb HO94); have n4_ := Aside0.mk (sbI hb HO114); have n5_ := Aside0.mk (rbI hb HO134); have n6_ := Aside0.mk (sbI hb HO184); have n7_ := Aside0.mk (sI hb HB); have n8_ := Aside0.mk (hsz_); clear HO23 HO36 HO52 HO94 HO114 HO134 HO184 HB HS; have HO23 := n0_; have HO36 := n1_; have HO52 := n2_; have HO94 := n3_; have HO114 := n4_; have HO134 := n5_; have HO184 := n6_; have HB := n7_; have HS := n8_; clear n0_ n1_ n2_ n3_ n4_ n5_ n6_ n7_ n8_ hb; have HE194 := Aside0.mk hle_; clear hle_ hsz_ hin_ ho190; have HO197 := ho_0; clear ho_0; obtain ⟨Ao195, co196, e_⟩ := Kd.R_slice (HO197.out); subst e_) | ((with_reducible refine gate_callee (f := 9) rfl ?_); refine gL (some 99) Try.func9 #[.slice Ao182 t172.length co183, .slice Ao195 t185.length co196] ?_; (with_reducible refine (impl_ClearHidden.calls k _ _ _ _ _ _ _ _ _ ?s_202 ?s_203 ?s_204 ?s_205 A_200.out).mono ?_); (case s_202 => exact (scI HO184).1); (case s_203 => exact (scR HO184).2); (case s_204 => exact (rcI HO197).1); (case s_205 => exact (rcR HO197).2); rintro e w_201 ⟨v207, rfl, ho206, hb⟩; refine ⟨_, rfl, ?_⟩; obtain ⟨lo208, hi209, hle_, hsz_, hin_⟩ := newRng HB HS hb; have ho_0 := Aside0.mk (hin_.r ho206); have n0_ := Aside0.mk (sbI hb HO23); have n1_ := Aside0.mk (rbI hb HO36); have n2_ := Aside0.mk (rbI hb HO52); have n3_ := Aside0.mk (rbI hb HO94); have n4_ := Aside0.mk (sbI hb HO114); have n5_ := Aside0.mk (rbI hb HO134); have n6_ := Aside0.mk (sbI hb HO184); have n7_ := Aside0.mk (rbI hb HO197); have n8_ := Aside0.mk (sI hb HB); have n9_ := Aside0.mk (hsz_); clear HO23 HO36 HO52 HO94 HO114 HO134 HO184 HO197 HB HS; have HO23 := n0_; have HO36 := n1_; have HO52 := n2_; have HO94 := n3_; have HO114 := n4_; have HO134 := n5_; have HO184 := n6_; have HO197 := n7_; have HB := n8_; have HS := n9_; clear n0_ n1_ n2_ n3_ n4_ n5_ n6_ n7_ n8_ n9_ hb; have HE210 := Aside0.mk hle_; clear hle_ hsz_ hin_ ho206; have HO213 := ho_0; clear ho_0; obtain ⟨Ao211, co212, e_⟩ := Kd.R_slice (HO213.out); subst e_) | ((with_reducible refine gate_callee (f := 10) rfl ?_); refine gL (some 104) Try.func10 #[.slice Ao211 t198.length co212, .slice Ao50 t37.length co51] ?_; (with_reducible refine (laws_eqAnswerS.calls k _ _ _ _ _ _ _ _ ?s_217 ?s_218 ?s_219 ?s_220 A_215.out ⟨rfl⟩).mono ?_); (case s_217 => exact (rcI HO213).1); (case s_218 => exact (rcR HO213).2); (case s_219 => exact (rcI HO52).1); (case s_220 => exact (rcR HO52).2); rintro e w_216 ⟨rfl, hb⟩; refine ⟨_, rfl, ?_⟩; have n0_ := Aside0.mk (sbI hb HO23); have n1_ := Aside0.mk (rbI hb HO36); have n2_ := Aside0.mk (rbI hb HO52); have n3_ := Aside0.mk (rbI hb HO94); have n4_ := Aside0.mk (sbI hb HO114); have n5_ := Aside0.mk (rbI hb HO134); have n6_ := Aside0.mk (sbI hb HO184); have n7_ := Aside0.mk (rbI hb HO197); have n8_ := Aside0.mk (rbI hb HO213); have n9_ := Aside0.mk (sI hb HB); have n10_ := Aside0.mk (leI hb HS); clear HO23 HO36 HO52 HO94 HO114 HO134 HO184 HO197 HO213 HB HS; have HO23 := n0_; have HO36 := n1_; have HO52 := n2_; have HO94 := n3_; have HO114 := n4_; have HO134 := n5_; have HO184 := n6_; have HO197 := n7_; have HO213 := n8_; have HB := n9_; have HS := n10_; clear n0_ n1_ n2_ n3_ n4_ n5_ n6_ n7_ n8_ n9_ n10_ hb) | ((with_reducible refine gate_callee (f := 14) rfl ?_); refine gL (some 113) Try.func14 #[.slice Ao92 t79.length co93, .int .i64 1] ?_; refine calls_of_args (args' := #[.slice Ao92 t162.length co93, .int .i64 1]) (by rw [← rlI HO94]) ?_; (with_reducible refine (laws_heldAnswerS.calls k _ _ _ _ _ _ ?s_224 ?s_225 A_222.out).mono ?_); (case s_224 => exact (rcI HO94).1); (case s_225 => exact (rcR HO94).2); rintro e w_223 ⟨rfl, hb⟩; refine ⟨_, rfl, ?_⟩; have n0_ := Aside0.mk (sbI hb HO23); have n1_ := Aside0.mk (rbI hb HO36); have n2_ := Aside0.mk (rbI hb HO52); have n3_ := Aside0.mk (rbI hb HO94); have n4_ := Aside0.mk (sbI hb HO114); have n5_ := Aside0.mk (rbI hb HO134); have n6_ := Aside0.mk (sbI hb HO184); have n7_ := Aside0.mk (rbI hb HO197); have n8_ := Aside0.mk (rbI hb HO213); have n9_ := Aside0.mk (sI hb HB); have n10_ := Aside0.mk (leI hb HS); clear HO23 HO36 HO52 HO94 HO114 HO134 HO184 HO197 HO213 HB HS; have HO23 := n0_; have HO36 := n1_; have HO52 := n2_; have HO94 := n3_; have HO114 := n4_; have HO134 := n5_; have HO184 := n6_; have HO197 := n7_; have HO213 := n8_; have HB := n9_; have HS := n10_; clear n0_ n1_ n2_ n3_ n4_ n5_ n6_ n7_ n8_ n9_ n10_ hb))
 go_ret
 exact ⟨rfl, eI HB⟩
end Go.Proofs.Ytcjloeeomhiblaa.X
set_option linter.unusedVariables false
set_option linter.unusedSimpArgs false
namespace Go.Proofs.Ytcjloeeomhiblaa.Open
open Go.RowKit Go.Proofs.YtcjloeeomhiblaaW.PrintWords

/-- What reads at type t is of kind d, and good. -/
def Opens (P : Program) (t : TypeId) {α : Type} (d : Kd α) (good : α → Prop) : Prop :=
  ∀ (H : Type) (enc : TypeId × Value → H) (w : World) (fuel : Nat) (cs : List Value) (x : DataW H × List MemPlace),
    DataW.trod enc P w 0 (fun _ => true) true fuel t cs = some x → ∃ a, d.K w a cs ∧ good a

theorem opens_int {P : Program} {t : TypeId} {k : IntKind} (ht : P.underlying t = some (.int k)) : Opens P t (Kd.int k) (fun n => (Lit.int k n).wf = true) := by
  intro H enc w fuel cs x hx
  obtain ⟨n, rfl, _, hw⟩ := DataW.trod_int ht hx
  exact ⟨n, rfl, hw⟩
theorem opens_bool {P : Program} {t : TypeId} (ht : P.underlying t = some .bool) : Opens P t Kd.bool (fun _ => True) := by
  intro H enc w fuel cs x hx
  obtain ⟨n, rfl, _⟩ := DataW.trod_bool ht hx
  exact ⟨n, rfl, trivial⟩
theorem opens_string {P : Program} {t : TypeId} (ht : P.underlying t = some .string) : Opens P t Kd.string (fun s => s.size ≤ 9223372036854775807) := by
  intro H enc w fuel cs x hx
  obtain ⟨n, rfl, _, hw⟩ := DataW.trod_string ht hx
  exact ⟨n, rfl, by simpa [maxLen] using hw⟩

theorem cells_each {w : World} {a : Addr} {n : Nat} {cs : List Value} (h : w.cells? 0 a n = some cs) : cs.length = n ∧ ∀ i u, cs[i]? = some u → w.cell? (a.add i) = some u := by
  have h1 := World.cells?_some h
  refine ⟨h1.2.1, fun i u hu => ?_⟩
  have hi : i < n := by
    have := (List.getElem?_eq_some_iff.1 hu).1
    omega
  rw [h1.2.2 i hi, hu]

theorem opens_slice {P : Program} {t e : TypeId} {α : Type} {d : Kd α} {g : α → Prop} (ht : P.underlying t = some (.slice e)) (hsz : P.cellsOf e = d.sz) (h : Opens P e d g) :
    Opens P t (Kd.slice e d) (fun xs => xs.length ≤ 9223372036854775807 ∧ ∀ x ∈ xs, g x) := by
  intro H enc w fuel cs x hx
  rcases DataW.trod_slice ht hx with ⟨rfl, _⟩ | ⟨a, len, cap, elems, rest, n, rfl, rfl, _, _, hlc, hcap, hel, hget, _, _⟩
  · exact ⟨[], ⟨none, 0, rfl, Nat.le_refl _, Kd.C_nil d w⟩, by simp, by simp⟩
  · simp only [maxLen] at hcap
    have each : ∀ i, i < len → ∃ b : α, ∃ c : List Value, c.length = d.sz ∧ d.K w b c ∧ g b ∧ ∀ j u, c[j]? = some u → w.cell? (a.add (i * d.sz + j)) = some u := by
      intro i hi
      have h1 := hget i hi
      obtain ⟨y, hy⟩ : ∃ y, elems[i]? = some y := ⟨_, List.getElem?_eq_getElem (by omega)⟩
      rw [hy] at h1
      obtain ⟨c, hc, ht'⟩ := Option.bind_eq_some_iff.1 h1
      obtain ⟨b, hK, hg⟩ := h H enc w n c y ht'
      obtain ⟨hl, hcell⟩ := cells_each hc
      refine ⟨b, c, hl.trans hsz, hK, hg, fun j u hu => ?_⟩
      have := hcell j u hu
      rw [Deep.add_add, hsz] at this
      exact this
    have mk : ∀ m, m ≤ len → ∃ xs : List α, xs.length = m ∧ (∀ x ∈ xs, g x) ∧ ∀ j p, xs[j]? = some p → ∃ c, c.length = d.sz ∧ d.K w p c ∧ ∀ i u, c[i]? = some u → w.cell? (a.add (j * d.sz + i)) = some u := by
      intro m
      induction m with
      | zero => exact fun _ => ⟨[], rfl, by simp, by simp⟩
      | succ m ih =>
        intro hm
        obtain ⟨xs, hl, hg, hx⟩ := ih (by omega)
        obtain ⟨b, c, hc1, hc2, hc3, hc4⟩ := each m (by omega)
        refine ⟨xs ++ [b], by simp [hl], ?_, ?_⟩
        · intro x hx'
          rcases List.mem_append.1 hx' with hx' | hx'
          · exact hg x hx'
          · rw [List.mem_singleton.1 hx']; exact hc3
        · intro j p hj
          by_cases hjm : j < m
          · rw [List.getElem?_append_left (by omega)] at hj
            exact hx j p hj
          · have hlt := (List.getElem?_eq_some_iff.1 hj).1
            simp only [List.length_append, List.length_cons, List.length_nil] at hlt
            obtain rfl : j = m := by omega
            rw [List.getElem?_append_right (by omega), hl, Nat.sub_self] at hj
            simp only [List.getElem?_cons_zero, Option.some.injEq] at hj
            subst hj
            exact ⟨c, hc1, hc2, hc4⟩
    obtain ⟨ys, hl, hg, hy⟩ := mk len (Nat.le_refl _)
    subst hl
    exact ⟨ys, ⟨some a, cap, rfl, hlc, rfl, by omega, fun _ => ⟨a, rfl, hy⟩⟩, by omega, hg⟩

def offs (L : List (TypeId × Nat)) (i : Nat) : Nat := ((L.take i).map (·.2)).sum
def Sect (P : Program) (L : List (TypeId × Nat)) {α : Type} (d : Kd α) (good : α → Prop) : Prop :=
  ∀ (H : Type) (enc : TypeId × Value → H) (w : World) (n : Nat) (cs : List Value), cs.length = (L.map (·.2)).sum →
    (∀ i p, L[i]? = some p → ∃ y, DataW.trod enc P w 0 (fun _ => true) true n p.1 ((cs.drop (offs L i)).take p.2) = some y) → ∃ a, d.K w a cs ∧ good a
theorem sect_one {P : Program} {t : TypeId} {s : Nat} {α : Type} {d : Kd α} {g : α → Prop} (h : Opens P t d g) : Sect P [(t, s)] d g := by
  intro H enc w n cs hl hf
  obtain ⟨y, hy⟩ := hf 0 _ rfl
  simp only [offs, List.take_zero, List.map_nil, List.sum_nil, List.drop_zero] at hy
  rw [List.take_of_length_le (by simp at hl; omega)] at hy
  exact h H enc w n cs y hy
theorem sect_cons {P : Program} {t : TypeId} {s : Nat} {L : List (TypeId × Nat)} {α β : Type} {d : Kd α} {d' : Kd β} {g : α → Prop} {g' : β → Prop} (h : Opens P t d g) (h' : Sect P L d' g') :
    Sect P ((t, s) :: L) (Kd.pair d d') (fun x => g x.1 ∧ g' x.2) := by
  intro H enc w n cs hl hf
  obtain ⟨y, hy⟩ := hf 0 _ rfl
  simp only [offs, List.take_zero, List.map_nil, List.sum_nil, List.drop_zero] at hy
  obtain ⟨a, ha, hga⟩ := h H enc w n _ y hy
  obtain ⟨b, hb, hgb⟩ := h' H enc w n (cs.drop s) (by simp only [List.map_cons, List.sum_cons] at hl; rw [List.length_drop, hl]; omega) (by
    intro i p hp
    obtain ⟨z, hz⟩ := hf (i + 1) p (by simpa using hp)
    refine ⟨z, ?_⟩
    simp only [offs, List.take_succ_cons, List.map_cons, List.sum_cons] at hz
    rw [List.drop_drop]
    exact hz)
  exact ⟨(a, b), ⟨cs.take s, cs.drop s, (List.take_append_drop s cs).symm, ha, hb⟩, hga, hgb⟩
theorem opens_struct {P : Program} {t : TypeId} {fs : Array Field} {α β : Type} {d : Kd α} {g : α → Prop} (f : β → α) (k : α → β) (hk : ∀ x, f (k x) = x) (L : List (TypeId × Nat))
    (ht : P.underlying t = some (.struct fs)) (hL : L = fs.toList.map (fun f => (f.type, P.cellsOf f.type))) (ho : fs.toList.map (·.offset) = (List.range L.length).map (offs L)) (hc : P.cellsOf t = (L.map (·.2)).sum)
    (h : Sect P L d g) : Opens P t (Kd.iso d f) (fun x => g (f x)) := by
  intro H enc w fuel cs x hx
  obtain ⟨xs, n, rfl, rfl, hl, hxl, hf⟩ := DataW.trod_struct ht hx
  obtain ⟨a, ha, hg⟩ := h H enc w n cs (hl.trans hc) (by
    intro i p hp
    have hi : i < fs.size := by
      have := (List.getElem?_eq_some_iff.1 hp).1
      rw [hL] at this
      simpa using this
    have hfi : fs[i]? = some fs[i] := Array.getElem?_eq_getElem hi
    have h1 := hf i fs[i] hfi
    obtain ⟨y, hy⟩ : ∃ y, xs[i]? = some y := ⟨_, List.getElem?_eq_getElem (by omega)⟩
    rw [hy] at h1
    refine ⟨y, ?_⟩
    have hp' : p = (fs[i].type, P.cellsOf fs[i].type) := by
      rw [hL] at hp
      simp only [List.getElem?_map, Array.getElem?_toList, hfi, Option.map_some, Option.some.injEq] at hp
      exact hp.symm
    have hoi : fs[i].offset = offs L i := by
      have h2 : (fs.toList.map (·.offset))[i]? = ((List.range L.length).map (offs L))[i]? := by rw [ho]
      have hLl : L.length = fs.size := by rw [hL]; simp
      simp only [List.getElem?_map, Array.getElem?_toList, hfi, Option.map_some, List.getElem?_range (show i < L.length by omega)] at h2
      exact Option.some.inj h2
    rw [hp', ← hoi]
    exact h1)
  refine ⟨k a, ?_, ?_⟩
  · show d.K w (f (k a)) cs
    rw [hk]; exact ha
  · show g (f (k a))
    rw [hk]; exact hg

theorem arg_slice {P : Program} {W : World} {H : Type} {enc : TypeId × Value → H} {t e : TypeId} {α : Type} {d : Kd α} {g : List α → Prop} {v : Value} {x : DataW H} {p : List MemPlace} (h : Opens P t (Kd.slice e d) g)
    (hs : ∃ a len cap, v = .slice a len cap) (hv : DataW.Trod enc P W 0 (fun _ => true) true t v x p) : ∃ A c xs, v = .slice A xs.length c ∧ xs.length ≤ c ∧ Kd.C d W A xs.length xs ∧ g xs := by
  obtain ⟨a, len, cap, rfl⟩ := hs
  obtain ⟨fuel, hf⟩ := hv
  obtain ⟨xs, ⟨A, c, he, hl, hc⟩, hg⟩ := h H enc W fuel _ _ hf
  simp [Value.cells] at he
  obtain ⟨rfl, rfl, rfl⟩ := he
  exact ⟨_, _, xs, rfl, hl, hc, hg⟩
end Go.Proofs.Ytcjloeeomhiblaa.Open
set_option linter.unusedVariables false
namespace Go.Proofs.Ytcjloeeomhiblaa.X
open Go.RowKit Go.Proofs.YtcjloeeomhiblaaW.PrintWords Go.Proofs.Ytcjloeeomhiblaa.Open
theorem op9 : Opens Try.prog 9 Kd.string (fun s => s.size ≤ 9223372036854775807) := opens_string Try.underlying9
theorem op3 : Opens Try.prog 3 (Kd.int .i64) (fun n => (Lit.int .i64 n).wf = true) := opens_int Try.underlying3
theorem op38 : Opens Try.prog 38 (Kd.slice 9 Kd.string) (fun xs => (xs.length ≤ 9223372036854775807 ∧ ∀ y ∈ xs, y.size ≤ 9223372036854775807)) := opens_slice Try.underlying38 (by kernel_rfl) op9
theorem op4 : Opens Try.prog 4 Kd.bool (fun _ => True) := opens_bool Try.underlying4
def good40 (x : S40) : Prop := x.f0.size ≤ 9223372036854775807 ∧ (Lit.int .i64 x.f1).wf = true ∧ (Lit.int .i64 x.f2).wf = true ∧ (Lit.int .i64 x.f3).wf = true ∧ (x.f4.length ≤ 9223372036854775807 ∧ ∀ y ∈ x.f4, y.size ≤ 9223372036854775807) ∧ True ∧ x.f6.size ≤ 9223372036854775807
theorem op40 : Opens Try.prog 40 k40 good40 :=
  opens_struct (fun x : S40 => (x.f0, x.f1, x.f2, x.f3, x.f4, x.f5, x.f6)) (fun p => ⟨p.1, p.2.1, p.2.2.1, p.2.2.2.1, p.2.2.2.2.1, p.2.2.2.2.2.1, p.2.2.2.2.2.2⟩) (fun _ => rfl) [(9, 1), (3, 1), (3, 1), (3, 1), (38, 1), (4, 1), (9, 1)] Try.underlying40 (by kernel_rfl) (by decide) (by kernel_rfl) (sect_cons op9 (sect_cons op3 (sect_cons op3 (sect_cons op3 (sect_cons op38 (sect_cons op4 (sect_one op9)))))))
theorem op22 : Opens Try.prog 22 (Kd.slice 40 k40) (fun xs => (xs.length ≤ 9223372036854775807 ∧ ∀ y ∈ xs, good40 y)) := opens_slice Try.underlying22 (by kernel_rfl) op40
def good43 (x : S43) : Prop := x.f0.size ≤ 9223372036854775807 ∧ x.f1.size ≤ 9223372036854775807
theorem op43 : Opens Try.prog 43 k43 good43 :=
  opens_struct (fun x : S43 => (x.f0, x.f1)) (fun p => ⟨p.1, p.2⟩) (fun _ => rfl) [(9, 1), (9, 1)] Try.underlying43 (by kernel_rfl) (by decide) (by kernel_rfl) (sect_cons op9 (sect_one op9))
theorem op23 : Opens Try.prog 23 (Kd.slice 43 k43) (fun xs => (xs.length ≤ 9223372036854775807 ∧ ∀ y ∈ xs, good43 y)) := opens_slice Try.underlying23 (by kernel_rfl) op43
end Go.Proofs.Ytcjloeeomhiblaa.X
namespace Go.Proofs.Ytcjloeeomhiblaa.X
open Go.RowKit Go.Proofs.YtcjloeeomhiblaaW.PrintWords
def PureFnExactClearHidden : Prop := ∀ (a0 : List (S40)) (a1 : List (S43)), (a0.length ≤ 9223372036854775807 ∧ ∀ y ∈ a0, good40 y) → (a1.length ≤ 9223372036854775807 ∧ ∀ y ∈ a1, good43 y) → ∃ k, laws_FnExactClearHidden.f k a0 a1 = some true
end Go.Proofs.Ytcjloeeomhiblaa.X
set_option linter.unusedVariables false
set_option linter.unusedSimpArgs false
namespace Go.Proofs.Ytcjloeeomhiblaa.X
open Go.RowKit Go.Proofs.YtcjloeeomhiblaaW.PrintWords Go.Proofs.Ytcjloeeomhiblaa.E
theorem l1In_eq (a l h : Int) : spec_l1In.f a l h = some (decide (l ≤ a ∧ a ≤ h)) := by
  unfold spec_l1In.f
  by_cases h1 : a ≥ l
  · rw [if_pos h1]; congr 1; simp [h1]
  · rw [if_neg h1]; congr 1; symm; simp; intro h2; omega
theorem within_eq (a l h : Int) : impl_within.f a l h = some (decide (l ≤ a ∧ a ≤ h)) := by
  unfold impl_within.f
  by_cases h1 : a ≥ l
  · rw [if_pos h1]; congr 1; simp [h1]
  · rw [if_neg h1]; congr 1; symm; simp; intro h2; omega
def nameAt (s : ByteArray) (i : Nat) : Bool := decide (97 ≤ bt s i ∧ bt s i ≤ 122) || (decide (0 < i) && decide (48 ≤ bt s i ∧ bt s i ≤ 57))
def nameB (s : ByteArray) : Bool := decide (1 ≤ (s.size : Int) ∧ (s.size : Int) ≤ 8) && (List.range s.size).all (nameAt s)
theorem isName_ev (s : ByteArray) (hs : s.size ≤ 9223372036854775807) : Ev (fun k => impl_isName.f k s) (nameB s) := by
  have h := ev_all0 (L := fun k i => impl_isName.l0 k s (s.size : Int) i) s.size (nameAt s) false (decide (1 ≤ (s.size : Int) ∧ (s.size : Int) ≤ 8)) (fun _ => Ev.step (fun k => rfl) (ev_neg (by omega) ?_)) ?h1 ?h2
  case refine_1 => simp only [within_eq]; exact ev_now rfl
  case h1 =>
    intro i hi _ hc y hy
    simp only [nameAt, Bool.or_eq_true, Bool.and_eq_true, decide_eq_true_eq] at hc
    refine Ev.step (fun k => rfl) (ev_pos (by omega) (ev_pos (by omega) (ev_pos (by omega) ?_)))
    rw [wrap_succ hi hs]
    repeat' (first | exact hy | (exfalso; omega) | (refine ev_ite (fun _ => ?_) (fun _ => ?_)))
  case h2 =>
    intro i hi _ hc
    simp only [nameAt, Bool.or_eq_false_iff, Bool.and_eq_false_iff, decide_eq_false_iff_not] at hc
    refine Ev.step (fun k => rfl) (ev_pos (by omega) (ev_pos (by omega) (ev_pos (by omega) ?_)))
    rw [wrap_succ hi hs]
    repeat' (first | exact ev_now rfl | (exfalso; omega) | (refine ev_ite (fun _ => ?_) (fun _ => ?_)))
  refine ev_cast h ?_
  unfold nameB
  cases (List.range s.size).all (nameAt s) <;> simp
theorem l7Name_ev (s : ByteArray) (hs : s.size ≤ 9223372036854775807) : Ev (fun k => spec_l7Name.f k s) (nameB s) := by
  unfold spec_l7Name.f
  simp only [l1In_eq]
  have stop : ∀ b, b = false → Ev (fun k => spec_l7Name.j0 k s true) b := fun b hb => hb ▸ Ev.step (fun k => rfl) (ev_now rfl)
  refine ev_ite (fun h1 => ?_) (fun h1 => stop _ ?_)
  case refine_2 => unfold nameB; simp only [Bool.and_eq_false_iff]; left; simpa using h1
  have h1' : 1 ≤ (s.size : Int) ∧ (s.size : Int) ≤ 8 := by simpa using h1
  have h0 : ∀ b : Bool, (97 ≤ bt s 0 ∧ bt s 0 ≤ 122 → b = (List.range s.size).all (nameAt s)) → (¬ (97 ≤ bt s 0 ∧ bt s 0 ≤ 122) → b = false) → b = nameB s := by
    intro b hy hn
    unfold nameB
    rw [decide_eq_true h1', Bool.true_and]
    by_cases c : 97 ≤ bt s 0 ∧ bt s 0 ≤ 122
    · exact hy c
    · rw [hn c]
      symm
      rw [Bool.eq_false_iff]
      intro hall
      have := all_range.1 hall 0 (by omega)
      simp only [nameAt, Nat.lt_irrefl, decide_false, Bool.false_and, Bool.or_false, decide_eq_true_eq] at this
      exact c this
  refine ev_pos (by omega) ?_
  have loop : 97 ≤ bt s 0 ∧ bt s 0 ≤ 122 → Ev (fun k => spec_l7Name.l0 k s 0) ((List.range s.size).all (nameAt s)) := by
    intro hf
    have h := ev_all0 (L := fun k i => spec_l7Name.l0 k s i) s.size (nameAt s) false true (fun _ => Ev.step (fun k => rfl) (ev_neg (by omega) (ev_now rfl))) ?h1 ?h2
    case h1 =>
      intro i hi _ hc y hy
      simp only [nameAt, Bool.or_eq_true, Bool.and_eq_true, decide_eq_true_eq] at hc
      refine Ev.step (fun k => rfl) (ev_pos (by omega) (ev_pos (by omega) ?_))
      rw [wrap_succ hi hs]
      repeat' (first | exact hy | (exfalso; omega) | (refine ev_ite (fun _ => ?_) (fun _ => ?_)))
    case h2 =>
      intro i hi _ hc
      simp only [nameAt, Bool.or_eq_false_iff, Bool.and_eq_false_iff, decide_eq_false_iff_not] at hc
      have hi0 : 0 < i := by
        rcases Nat.eq_zero_or_pos i with e | e
        · subst e; exact absurd hf hc.1
        · exact e
      refine Ev.step (fun k => rfl) (ev_pos (by omega) (ev_pos (by omega) ?_))
      rw [wrap_succ hi hs]
      repeat' (first | exact ev_now rfl | (exfalso; omega) | (refine ev_ite (fun _ => ?_) (fun _ => ?_)))
    refine ev_cast h ?_
    cases (List.range s.size).all (nameAt s) <;> rfl
  refine ev_ite (fun c => stop _ (h0 false (fun h => by exfalso; omega) (fun _ => rfl)).symm) (fun c => ?_)
  by_cases c2 : bt s 0 > 122
  · rw [decide_eq_true c2]
    exact stop _ (h0 false (fun h => by exfalso; omega) (fun _ => rfl)).symm
  · rw [decide_eq_false c2]
    exact Ev.step (fun k => rfl) (ev_cast (loop ⟨by omega, by omega⟩) (h0 _ (fun _ => rfl) (fun h => absurd (And.intro (show 97 ≤ bt s 0 by omega) (show bt s 0 ≤ 122 by omega)) h)))
def textAt (s : ByteArray) (i : Nat) : Bool := decide (32 ≤ bt s i ∧ bt s i ≤ 126)
def textB (s : ByteArray) : Bool := (List.range s.size).all (textAt s) && decide ((s.size : Int) ≤ 40)
theorem isText_ev (s : ByteArray) (hs : s.size ≤ 9223372036854775807) : Ev (fun k => impl_isText.f k s) (textB s) := by
  have h := ev_all0 (L := fun k i => impl_isText.l0 k s (s.size : Int) i) s.size (textAt s) false (decide ((s.size : Int) ≤ 40)) (fun _ => Ev.step (fun k => rfl) (ev_neg (by omega) (ev_now rfl))) ?h1 ?h2
  case h1 =>
    intro i hi _ hc y hy
    simp only [textAt, decide_eq_true_eq] at hc
    refine Ev.step (fun k => rfl) (ev_pos (by omega) (ev_pos (by omega) (ev_pos (by omega) ?_)))
    rw [wrap_succ hi hs]
    exact ev_neg (by omega) (ev_neg (by omega) hy)
  case h2 =>
    intro i hi _ hc
    simp only [textAt, decide_eq_false_iff_not] at hc
    refine Ev.step (fun k => rfl) (ev_pos (by omega) (ev_pos (by omega) (ev_pos (by omega) ?_)))
    refine ev_ite (fun _ => ev_now rfl) (fun _ => ev_ite (fun _ => ev_now rfl) (fun _ => ?_))
    exfalso; omega
  refine ev_cast h ?_
  unfold textB
  cases (List.range s.size).all (textAt s) <;> simp
theorem l21Text_ev (s : ByteArray) (hs : s.size ≤ 9223372036854775807) : Ev (fun k => spec_l21Text.f k s) (textB s) := by
  -- within the first forty bytes as the program; a longer one is refused at the forty-second step or before
  have h := ev_all0 (L := fun k i => spec_l21Text.l0 k s i) (min s.size 41) (textAt s) false (decide ((s.size : Int) ≤ 40)) ?h0 ?h1 ?h2
  case h0 =>
    intro _
    by_cases c : s.size ≤ 40
    · rw [Nat.min_eq_left (by omega)]
      exact Ev.step (fun k => rfl) (ev_neg (by omega) (Ev.step (fun k => rfl) (ev_now rfl)))
    · rw [Nat.min_eq_right (by omega)]
      refine Ev.step (fun k => rfl) ?_
      show Ev (fun k => if ((41 : Nat) : Int) < (s.size : Int) then spec_l21Text.j1 k s ((41 : Nat) : Int) (decide (((41 : Nat) : Int) ≤ 40)) else spec_l21Text.j1 k s ((41 : Nat) : Int) false) _
      rw [decide_eq_false (show ¬ (((41 : Nat) : Int) ≤ 40) by omega)]
      exact ev_ite (fun _ => Ev.step (fun k => rfl) (ev_now rfl)) (fun _ => Ev.step (fun k => rfl) (ev_now rfl))
  case h1 =>
    intro i hi _ hc y hy
    simp only [textAt, decide_eq_true_eq] at hc
    have hi' : i < s.size := by omega
    refine Ev.step (fun k => rfl) (ev_pos (by omega) ?_)
    rw [decide_eq_true (show (i : Int) ≤ 40 by omega)]
    refine Ev.step (fun k => rfl) ?_
    show Ev (fun k => if 0 ≤ (i : Int) then (if (i : Int) < (s.size : Int) then (if (bt s i) < 32 then (some false) else (if (bt s i) > 126 then (some false) else (spec_l21Text.l0 k s (wrap64 ((i : Int) + 1))))) else none) else none) y
    rw [wrap_succ hi' hs]
    exact ev_pos (by omega) (ev_pos (by omega) (ev_neg (by omega) (ev_neg (by omega) hy)))
  case h2 =>
    intro i hi _ hc
    simp only [textAt, decide_eq_false_iff_not] at hc
    have hi' : i < s.size := by omega
    refine Ev.step (fun k => rfl) (ev_pos (by omega) ?_)
    rw [decide_eq_true (show (i : Int) ≤ 40 by omega)]
    refine Ev.step (fun k => rfl) ?_
    show Ev (fun k => if 0 ≤ (i : Int) then (if (i : Int) < (s.size : Int) then (if (bt s i) < 32 then (some false) else (if (bt s i) > 126 then (some false) else (spec_l21Text.l0 k s (wrap64 ((i : Int) + 1))))) else none) else none) _
    refine ev_pos (by omega) (ev_pos (by omega) (ev_ite (fun _ => ev_now rfl) (fun _ => ev_ite (fun _ => ev_now rfl) (fun _ => ?_))))
    exfalso; omega
  refine ev_cast h ?_
  unfold textB
  by_cases c : s.size ≤ 40
  · rw [Nat.min_eq_left (by omega)]
    cases (List.range s.size).all (textAt s) <;> simp
  · rw [decide_eq_false (show ¬ ((s.size : Int) ≤ 40) by omega)]
    simp
end Go.Proofs.Ytcjloeeomhiblaa.X
set_option linter.unusedVariables false
set_option linter.unusedSimpArgs false
namespace Go.Proofs.Ytcjloeeomhiblaa.X
open Go.RowKit Go.Proofs.YtcjloeeomhiblaaW.PrintWords Go.Proofs.Ytcjloeeomhiblaa.E
abbrev Field := S49
abbrev zF : Field := z49
/-- What a reading tells of a field's sizes. -/
def fine (f : Field) : Prop := f.f0.size ≤ 9223372036854775807 ∧ f.f4.length ≤ 9223372036854775807 ∧ (∀ s ∈ f.f4, s.size ≤ 9223372036854775807) ∧ f.f6.size ≤ 9223372036854775807
abbrev fidx (form : List Field) (n : ByteArray) : Int := idxG (fun x : Field => x.f0.toList == n.toList) 0 form
theorem l23Find_ev (form : List Field) (n : ByteArray) (hl : form.length ≤ 9223372036854775807) : Ev (fun k => spec_l23Find.f k form n) (fidx form n) := by
  have h := ev_walk (L := fun k i => spec_l23Find.l0 k form n i) (G := fun i r => idxG (fun x : Field => x.f0.toList == n.toList) i r) form (Ev.step (fun k => rfl) (ev_neg (by omega) (ev_now rfl))) ?step
  case step =>
    intro i x r hi hd hx hk
    refine Ev.step (fun k => rfl) (ev_pos (by omega) (ev_pos (by omega) ?_))
    simp only [rd_T49, Int.toNat_natCast, hx]
    by_cases c : x.f0.toList = n.toList
    · exact ev_pos c (ev_now (by simp [idxG, c]))
    · refine ev_neg c ?_
      rw [wrap_succ hi hl]
      exact ev_cast hk (by simp [idxG, c])
  exact h
theorem fieldOf_eq (form : List Field) (n : ByteArray) : impl_fieldOf.f form n = some (fidx form n) := rfl
/-- A list's choices: names, and none twice. -/
def choiceAt (l : List ByteArray) (i : Nat) : Bool := nameB (l.getD i ByteArray.empty) && (List.range i).all (fun k => !((l.getD k ByteArray.empty).toList == (l.getD i ByteArray.empty).toList))
def choices (l : List ByteArray) : Bool := (List.range l.length).all (choiceAt l)
theorem l23Names_ev (l : List ByteArray) (hl : l.length ≤ 9223372036854775807) (hs : ∀ s ∈ l, s.size ≤ 9223372036854775807) : Ev (fun k => spec_l23Names.f k l) (choices l) := by
  have inner : ∀ i, i < l.length → ∀ y, ((List.range i).all (fun k => !((l.getD k ByteArray.empty).toList == (l.getD i ByteArray.empty).toList)) = true → Ev (fun k => spec_l23Names.l0 k l ((i + 1 : Nat) : Int)) y) →
      Ev (fun k => spec_l23Names.l1 k l i 0) (if (List.range i).all (fun k => !((l.getD k ByteArray.empty).toList == (l.getD i ByteArray.empty).toList)) = true then y else false) := by
    intro i hi y hy
    refine ev_all0 (L := fun k j => spec_l23Names.l1 k l i j) i _ false y ?_ ?_ ?_
    · intro hC
      refine Ev.step (fun k => rfl) (ev_neg (by omega) ?_)
      rw [wrap_succ hi hl]
      exact hy (all_range.2 hC)
    · intro m hm _ hc z hz
      refine Ev.step (fun k => rfl) (ev_pos (by omega) (ev_pos (by omega) (ev_pos (by omega) (ev_pos (by omega) (ev_pos (by omega) (ev_neg ?_ ?_))))))
      · simp only [rdOf, Int.toNat_natCast]
        simpa using hc
      · rw [wrap_succ hm (by omega)]; exact hz
    · intro m hm _ hc
      refine Ev.step (fun k => rfl) (ev_pos (by omega) (ev_pos (by omega) (ev_pos (by omega) (ev_pos (by omega) (ev_pos (by omega) (ev_pos ?_ (ev_now rfl)))))))
      simp only [rdOf, Int.toNat_natCast]
      simpa using hc
  have h := ev_all0 (L := fun k i => spec_l23Names.l0 k l i) l.length (choiceAt l) false true (fun _ => Ev.step (fun k => rfl) (ev_neg (by omega) (ev_now rfl))) ?h1 ?h2
  case h1 =>
    intro i hi _ hc y hy
    simp only [choiceAt, Bool.and_eq_true] at hc
    refine Ev.step (fun k => rfl) (ev_pos (by omega) (ev_pos (by omega) ?_))
    simp only [rdOf, Int.toNat_natCast]
    refine Ev.bind (l7Name_ev _ (by rw [getD_in hi]; exact hs _ (List.getElem_mem hi))) (ev_pos hc.1 ?_)
    have := inner i hi y (fun _ => hy)
    rw [if_pos hc.2] at this
    exact this
  case h2 =>
    intro i hi _ hc
    refine Ev.step (fun k => rfl) (ev_pos (by omega) (ev_pos (by omega) ?_))
    simp only [rdOf, Int.toNat_natCast]
    refine Ev.bind (l7Name_ev _ (by rw [getD_in hi]; exact hs _ (List.getElem_mem hi))) (ev_ite (fun h1 => ?_) (fun _ => ev_now rfl))
    have hn : ¬ (List.range i).all (fun k => !((l.getD k ByteArray.empty).toList == (l.getD i ByteArray.empty).toList)) = true := by
      intro h2
      simp only [choiceAt, h1, h2] at hc
      cases hc
    have := inner i hi false (fun h => absurd h hn)
    rw [if_neg hn] at this
    exact this
  refine ev_cast h ?_
  unfold choices
  cases (List.range l.length).all (choiceAt l) <;> rfl
theorem slicesIndexStr_ev (l : List ByteArray) (n : ByteArray) (hl : l.length ≤ 9223372036854775807) : Ev (fun k => slices_Index_string_string.f k l n) (idxG (fun x : ByteArray => x.toList == n.toList) 0 l) := by
  have h := ev_walk (L := fun k i => slices_Index_string_string.l0 k l n (l.length : Int) i) (G := fun i r => idxG (fun x : ByteArray => x.toList == n.toList) i r) l (Ev.step (fun k => rfl) (ev_neg (by omega) (ev_now rfl))) ?step
  case step =>
    intro i x r hi hd hx hk
    refine Ev.step (fun k => rfl) (ev_pos (by omega) (ev_pos (by omega) (ev_pos (by omega) ?_)))
    simp only [rdOf, Int.toNat_natCast, hx]
    by_cases c : n.toList = x.toList
    · exact ev_pos c (ev_now (by simp [idxG, c]))
    · refine ev_neg c ?_
      rw [wrap_succ hi hl]
      have c' : ¬ x.toList = n.toList := fun h => c h.symm
      exact ev_cast hk (by simp [idxG, c'])
  exact h
theorem slicesContainsStr_ev (l : List ByteArray) (n : ByteArray) (hl : l.length ≤ 9223372036854775807) : Ev (fun k => slices_Contains_string_string.f k l n) (l.any (fun x => x.toList == n.toList)) := by
  unfold slices_Contains_string_string.f
  refine Ev.bind (slicesIndexStr_ev l n hl) (ev_now ?_)
  exact idxG_nonneg (fun x : ByteArray => x.toList == n.toList) l 0
theorem any_take (l : List ByteArray) (i : Nat) (hi : i < l.length) (n : ByteArray) : (l.take i).any (fun x => x.toList == n.toList) = !(List.range i).all (fun k => !((l.getD k ByteArray.empty).toList == n.toList)) := by
  rw [Bool.eq_iff_iff, Bool.not_eq_true', List.any_eq_true, Bool.eq_false_iff, ne_eq, all_range]
  constructor
  · rintro ⟨x, hx, hp⟩ h
    obtain ⟨q, hq, rfl⟩ := List.getElem_of_mem hx
    have hq' : q < i := by simp at hq; omega
    have := h q hq'
    rw [getD_in (by omega)] at this
    rw [List.getElem_take] at hp
    rw [hp] at this; cases this
  · intro h
    refine Classical.byContradiction (fun hc => h (fun k hk => ?_))
    rw [getD_in (by omega)]
    cases hq : (l[k].toList == n.toList) with
    | false => rfl
    | true =>
      refine absurd ⟨l[k], ?_, hq⟩ hc
      rw [List.mem_take_iff_getElem]
      exact ⟨k, by omega, rfl⟩
/-- What is asked of the kind. -/
def kindOk (f : Field) : Bool :=
  if f.f1 = 1 then decide (-999999 ≤ f.f2 ∧ f.f2 ≤ f.f3 ∧ f.f3 ≤ 999999) && (f.f4.length == 0)
  else if f.f1 = 2 then decide (0 ≤ f.f2 ∧ f.f2 ≤ f.f3 ∧ f.f3 ≤ 40) && (f.f4.length == 0)
  else if f.f1 = 3 then decide (f.f2 = 0 ∧ f.f3 = 0) && decide (1 ≤ (f.f4.length : Int) ∧ (f.f4.length : Int) ≤ 6) && choices f.f4
  else if f.f1 = 4 then decide (f.f2 = 0 ∧ f.f3 = 0) && (f.f4.length == 0) else false
/-- What is asked of the condition, the fields ahead being known. -/
def ifOk (form : List Field) (i : Nat) (n : ByteArray) : Bool := (n.toList == []) || (decide (0 ≤ fidx form n ∧ fidx form n < (i : Int)) && ((form.getD (fidx form n).toNat zF).f1 == 4))
def fieldB (form : List Field) (i : Nat) : Bool :=
  nameB (form.getD i zF).f0 && decide (fidx form (form.getD i zF).f0 = (i : Int)) && decide (1 ≤ (form.getD i zF).f1 ∧ (form.getD i zF).f1 ≤ 4) && ifOk form i (form.getD i zF).f6 && kindOk (form.getD i zF)
theorem specField_ev (form : List Field) (i : Nat) (hi : i < form.length) (hl : form.length ≤ 9223372036854775807) (hf : fine (form.getD i zF)) : Ev (fun k => spec_l23Field.f k form i) (fieldB form i) := by
  unfold spec_l23Field.f
  refine ev_pos (by omega) (ev_pos (by omega) ?_)
  simp only [rd_T49, Int.toNat_natCast, l1In_eq]
  generalize hF : form.getD i z49 = F at *
  have hFB : fieldB form i = (nameB F.f0 && decide (fidx form F.f0 = (i : Int)) && decide (1 ≤ F.f1 ∧ F.f1 ≤ 4) && ifOk form i F.f6 && kindOk F) := by unfold fieldB; rw [show form.getD i zF = F from hF]
  rw [hFB]
  obtain ⟨g0, g4, g4s, g6⟩ := id hf
  have stop : ∀ b, b = false → Ev (fun k => spec_l23Field.j0 k form i true F.f0 F.f1 F.f2 F.f3 F.f4 F.f5 F.f6) b := fun b hb => hb ▸ Ev.step (fun k => rfl) (ev_now rfl)
  refine Ev.bind (l7Name_ev F.f0 g0) (ev_ite (fun h1 => ?_) (fun h1 => stop _ (by simp [h1])))
  refine Ev.bind (l23Find_ev form F.f0 hl) (ev_ite (fun h2 => ?_) (fun h2 => stop _ (by simp [h2])))
  by_cases h3 : 1 ≤ F.f1 ∧ F.f1 ≤ 4
  case neg =>
    show Ev (fun k => spec_l23Field.j0 k form i (!decide (1 ≤ F.f1 ∧ F.f1 ≤ 4)) F.f0 F.f1 F.f2 F.f3 F.f4 F.f5 F.f6) _
    rw [decide_eq_false h3]
    exact stop _ (by simp)
  show Ev (fun k => spec_l23Field.j0 k form i (!decide (1 ≤ F.f1 ∧ F.f1 ≤ 4)) F.f0 F.f1 F.f2 F.f3 F.f4 F.f5 F.f6) _
  rw [decide_eq_true h3]
  have tail : Ev (fun k => spec_l23Field.j1 k F.f0 F.f1 F.f2 F.f3 F.f4 F.f5 F.f6) (kindOk F) := by
    refine Ev.step (fun k => rfl) ?_
    unfold kindOk
    simp only [spec_l23Field.j1, l1In_eq]
    have e0 : ((F.f4.length : Int) == 0) = (F.f4.length == 0) := by
      rw [Bool.eq_iff_iff, beq_iff_eq, beq_iff_eq]; omega
    refine ev_ite (fun k1 => ?_) (fun k1 => ev_ite (fun k2 => ?_) (fun k2 => ev_ite (fun k3 => ?_) (fun k3 => ?_)))
    · rw [if_pos k1]
      refine ev_ite (fun h => ev_ite (fun h' => ev_now ?_) (fun h' => ev_now ?_)) (fun h => ev_now ?_)
      · rw [decide_eq_true_eq] at h; rw [decide_eq_true (show -999999 ≤ F.f2 ∧ F.f2 ≤ F.f3 ∧ F.f3 ≤ 999999 by omega), Bool.true_and, e0]
      · rw [decide_eq_false (show ¬ (-999999 ≤ F.f2 ∧ F.f2 ≤ F.f3 ∧ F.f3 ≤ 999999) by omega), Bool.false_and]
      · rw [decide_eq_true_eq] at h; rw [decide_eq_false (show ¬ (-999999 ≤ F.f2 ∧ F.f2 ≤ F.f3 ∧ F.f3 ≤ 999999) by omega), Bool.false_and]
    · rw [if_neg k1, if_pos k2]
      refine ev_ite (fun h => ev_ite (fun h' => ev_now ?_) (fun h' => ev_now ?_)) (fun h => ev_now ?_)
      · rw [decide_eq_true_eq] at h; rw [decide_eq_true (show 0 ≤ F.f2 ∧ F.f2 ≤ F.f3 ∧ F.f3 ≤ 40 by omega), Bool.true_and, e0]
      · rw [decide_eq_false (show ¬ (0 ≤ F.f2 ∧ F.f2 ≤ F.f3 ∧ F.f3 ≤ 40) by omega), Bool.false_and]
      · rw [decide_eq_true_eq] at h; rw [decide_eq_false (show ¬ (0 ≤ F.f2 ∧ F.f2 ≤ F.f3 ∧ F.f3 ≤ 40) by omega), Bool.false_and]
    · rw [if_neg k1, if_neg k2, if_pos k3]
      refine ev_ite (fun h => ev_ite (fun h' => ev_ite (fun h'' => ?_) (fun h'' => ev_now ?_)) (fun h' => ev_now ?_)) (fun h => ev_now ?_)
      · rw [decide_eq_true (show F.f2 = 0 ∧ F.f3 = 0 from ⟨h, h'⟩), h'', Bool.true_and, Bool.true_and]
        exact Ev.bind (l23Names_ev F.f4 g4 g4s) (ev_now rfl)
      · rw [decide_eq_true (show F.f2 = 0 ∧ F.f3 = 0 from ⟨h, h'⟩), Bool.eq_false_iff.2 h'']; rfl
      · rw [decide_eq_false (show ¬ (F.f2 = 0 ∧ F.f3 = 0) by omega)]; rfl
      · rw [decide_eq_false (show ¬ (F.f2 = 0 ∧ F.f3 = 0) by omega)]; rfl
    · rw [if_neg k1, if_neg k2, if_neg k3, if_pos (show F.f1 = 4 by omega)]
      refine ev_ite (fun h => ev_ite (fun h' => ev_now ?_) (fun h' => ev_now ?_)) (fun h => ev_now ?_)
      · rw [decide_eq_true (show F.f2 = 0 ∧ F.f3 = 0 from ⟨h, h'⟩), Bool.true_and, e0]
      · rw [decide_eq_false (show ¬ (F.f2 = 0 ∧ F.f3 = 0) by omega)]; rfl
      · rw [decide_eq_false (show ¬ (F.f2 = 0 ∧ F.f3 = 0) by omega)]; rfl
  rw [h1, decide_eq_true h2, Bool.true_and, Bool.true_and, Bool.true_and]
  refine Ev.step (fun k => rfl) ?_
  show Ev (fun k => if F.f6.toList = ([] : List UInt8) then _ else _) _
  unfold ifOk
  refine ev_ite (fun h4 => ev_cast tail (by simp [h4])) (fun h4 => ?_)
  have h4' : (F.f6.toList == []) = false := by simpa using h4
  rw [h4', Bool.false_or]
  refine Ev.bind (l23Find_ev form F.f6 hl) (ev_ite (fun h5 => ev_now ?_) (fun h5 => ev_ite (fun h6 => ev_now ?_) (fun h6 => ?_)))
  · rw [decide_eq_false (by omega), Bool.false_and, Bool.false_and]
  · rw [decide_eq_false (by omega), Bool.false_and, Bool.false_and]
  · refine ev_pos (by omega) (ev_pos (by omega) ?_)
    simp only [rd_T49]
    rw [decide_eq_true (show 0 ≤ fidx form F.f6 ∧ fidx form F.f6 < (i : Int) by omega), Bool.true_and]
    refine ev_ite (fun h7 => ev_cast tail ?_) (fun h7 => ev_now ?_)
    · show kindOk F = (((form.getD (fidx form F.f6).toNat z49).f1 == 4) && kindOk F)
      rw [h7]; rfl
    · show false = (((form.getD (fidx form F.f6).toNat z49).f1 == 4) && kindOk F)
      rw [show ((form.getD (fidx form F.f6).toNat z49).f1 == 4) = false from by simpa using h7]; rfl
def formB (form : List Field) : Bool := decide ((form.length : Int) ≤ 10) && (List.range form.length).all (fieldB form)
theorem specForm_ev (form : List Field) (hl : form.length ≤ 9223372036854775807) (hf : ∀ f ∈ form, fine f) : Ev (fun k => spec_l23Good.f k form) (formB form) := by
  unfold spec_l23Good.f
  refine ev_ite (fun h => ev_now ?_) (fun h => ?_)
  · unfold formB; rw [decide_eq_false (by omega), Bool.false_and]
  unfold formB
  rw [decide_eq_true (by omega), Bool.true_and]
  have h := ev_all0 (L := fun k i => spec_l23Good.l0 k form i) form.length (fieldB form) false true (fun _ => Ev.step (fun k => rfl) (ev_neg (by omega) (ev_now rfl))) ?h1 ?h2
  case h1 =>
    intro i hi _ hc y hy
    refine Ev.step (fun k => rfl) (ev_pos (by omega) (Ev.bind (specField_ev form i hi hl (hf _ (by rw [getD_in hi]; exact List.getElem_mem hi))) (ev_pos hc ?_)))
    rw [wrap_succ hi hl]; exact hy
  case h2 =>
    intro i hi _ hc
    exact Ev.step (fun k => rfl) (ev_pos (by omega) (Ev.bind (specField_ev form i hi hl (hf _ (by rw [getD_in hi]; exact List.getElem_mem hi))) (ev_neg (by rw [hc]; simp) (ev_now rfl))))
  refine ev_cast h ?_
  cases (List.range form.length).all (fieldB form) <;> rfl
end Go.Proofs.Ytcjloeeomhiblaa.X
set_option linter.unusedVariables false
set_option linter.unusedSimpArgs false
namespace Go.Proofs.Ytcjloeeomhiblaa.X
open Go.RowKit Go.Proofs.YtcjloeeomhiblaaW.PrintWords Go.Proofs.Ytcjloeeomhiblaa.E
theorem choiceLoop_ev (F : Field) (hF : fine F) :
    Ev (fun k => impl_isField.l0 k F.f4 (F.f4.length : Int) 0 F.f0 F.f1 F.f2 F.f3 F.f4 F.f5 F.f6) (decide (F.f2 = 0 ∧ F.f3 = 0) && decide (1 ≤ (F.f4.length : Int) ∧ (F.f4.length : Int) ≤ 6) && choices F.f4) := by
  obtain ⟨g0, g4, g4s, g6⟩ := hF
  have h := ev_all0 (L := fun k i => impl_isField.l0 k F.f4 (F.f4.length : Int) i F.f0 F.f1 F.f2 F.f3 F.f4 F.f5 F.f6) F.f4.length (choiceAt F.f4) false
    (decide (F.f2 = 0 ∧ F.f3 = 0) && decide (1 ≤ (F.f4.length : Int) ∧ (F.f4.length : Int) ≤ 6)) (fun _ => Ev.step (fun k => rfl) (ev_neg (by omega) ?h0)) ?h1 ?h2
  case h0 =>
    simp only [within_eq]
    refine ev_ite (fun h => ev_ite (fun h' => ev_now ?_) (fun h' => ev_now ?_)) (fun h => ev_now ?_)
    · rw [h, Bool.and_true]
      rw [Bool.eq_iff_iff, beq_iff_eq, decide_eq_true_eq]
      exact ⟨fun e => ⟨h', e⟩, fun e => e.2⟩
    · rw [decide_eq_false (show ¬ (F.f2 = 0 ∧ F.f3 = 0) by omega), Bool.false_and]
    · rw [Bool.eq_false_iff.2 h, Bool.and_false]
  case h1 =>
    intro i hi _ hc y hy
    simp only [choiceAt, Bool.and_eq_true] at hc
    refine Ev.step (fun k => rfl) (ev_pos (by omega) (ev_pos (by omega) (ev_pos (by omega) ?_)))
    simp only [rdOf, Int.toNat_natCast]
    refine Ev.bind (isName_ev _ (by rw [getD_in hi]; exact g4s _ (List.getElem_mem hi))) (ev_pos hc.1 (ev_pos (by omega) ?_))
    refine Ev.bind (slicesContainsStr_ev _ _ (by simp; omega)) (ev_neg ?_ ?_)
    · rw [any_take _ _ hi, hc.2]; simp
    · rw [wrap_succ hi g4]; exact hy
  case h2 =>
    intro i hi _ hc
    refine Ev.step (fun k => rfl) (ev_pos (by omega) (ev_pos (by omega) (ev_pos (by omega) ?_)))
    simp only [rdOf, Int.toNat_natCast]
    refine Ev.bind (isName_ev _ (by rw [getD_in hi]; exact g4s _ (List.getElem_mem hi))) (ev_ite (fun h1 => ev_pos (by omega) ?_) (fun _ => ev_now rfl))
    refine Ev.bind (slicesContainsStr_ev _ _ (by simp; omega)) (ev_pos ?_ (ev_now rfl))
    rw [any_take _ _ hi]
    unfold choiceAt at hc
    rw [h1, Bool.true_and] at hc
    rw [hc]; rfl
  refine ev_cast h ?_
  unfold choices
  cases (List.range F.f4.length).all (choiceAt F.f4) <;> simp
theorem kindSwitch_ev (F : Field) (hF : fine F) : Ev (fun k => impl_isField.j1 k false F.f0 F.f1 F.f2 F.f3 F.f4 F.f5 F.f6) (decide (1 ≤ F.f1 ∧ F.f1 ≤ 4) && kindOk F) := by
  have e0 : decide ((F.f4.length : Int) > 0) = !(F.f4.length == 0) := by
    cases h : (F.f4.length == 0)
    · have : ¬ F.f4.length = 0 := by simpa using h
      rw [decide_eq_true (by omega)]; rfl
    · have : F.f4.length = 0 := by simpa using h
      rw [decide_eq_false (by omega)]; rfl
  have bad : Ev (fun k => impl_isField.j2 k true F.f0 F.f1 F.f2 F.f3 F.f4 F.f5 F.f6) false := Ev.step (fun k => rfl) (ev_now rfl)
  refine Ev.step (fun k => rfl) ?_
  show Ev (fun k => if F.f1 = 3 then impl_isField.j2 k false F.f0 F.f1 F.f2 F.f3 F.f4 F.f5 F.f6 else impl_isField.j2 k (decide ((F.f4.length : Int) > 0)) F.f0 F.f1 F.f2 F.f3 F.f4 F.f5 F.f6) _
  have sw : F.f1 = 3 ∨ (F.f4.length == 0) = true → Ev (fun k => impl_isField.j2 k false F.f0 F.f1 F.f2 F.f3 F.f4 F.f5 F.f6) (decide (1 ≤ F.f1 ∧ F.f1 ≤ 4) && kindOk F) := by
    intro hz
    refine Ev.step (fun k => rfl) ?_
    show Ev (fun k => if F.f1 = 1 then _ else _) _
    unfold kindOk
    refine ev_ite (fun k1 => ?_) (fun k1 => ev_ite (fun k2 => ?_) (fun k2 => ev_ite (fun k3 => ?_) (fun k3 => ev_ite (fun k4 => ?_) (fun k4 => ev_now ?_))))
    · rw [if_pos k1, decide_eq_true (show 1 ≤ F.f1 ∧ F.f1 ≤ 4 by omega), Bool.true_and, show (F.f4.length == 0) = true from hz.resolve_left (by omega), Bool.and_true]
      refine ev_ite (fun h => ev_ite (fun h' => ev_now ?_) (fun h' => ev_now ?_)) (fun h => ev_now ?_)
      · rw [Bool.eq_iff_iff, decide_eq_true_eq, decide_eq_true_eq]; omega
      · rw [decide_eq_false (by omega)]
      · rw [decide_eq_false (by omega)]
    · rw [if_neg k1, if_pos k2, decide_eq_true (show 1 ≤ F.f1 ∧ F.f1 ≤ 4 by omega), Bool.true_and, show (F.f4.length == 0) = true from hz.resolve_left (by omega), Bool.and_true]
      refine ev_ite (fun h => ev_ite (fun h' => ev_now ?_) (fun h' => ev_now ?_)) (fun h => ev_now ?_)
      · rw [Bool.eq_iff_iff, decide_eq_true_eq, decide_eq_true_eq]; omega
      · rw [decide_eq_false (by omega)]
      · rw [decide_eq_false (by omega)]
    · rw [if_neg k1, if_neg k2, if_pos k3, decide_eq_true (show 1 ≤ F.f1 ∧ F.f1 ≤ 4 by omega), Bool.true_and]
      exact choiceLoop_ev F hF
    · rw [if_neg k1, if_neg k2, if_neg k3, if_pos k4, decide_eq_true (show 1 ≤ F.f1 ∧ F.f1 ≤ 4 by omega), Bool.true_and, show (F.f4.length == 0) = true from hz.resolve_left (by omega), Bool.and_true]
      refine ev_ite (fun h => ev_now ?_) (fun h => ev_now ?_)
      · rw [Bool.eq_iff_iff, beq_iff_eq, decide_eq_true_eq]; exact ⟨fun e => ⟨h, e⟩, fun e => e.2⟩
      · rw [decide_eq_false (by omega)]
    · rw [decide_eq_false (show ¬ (1 ≤ F.f1 ∧ F.f1 ≤ 4) by omega), Bool.false_and]
  refine ev_ite (fun h3 => sw (.inl h3)) (fun h3 => ?_)
  rw [e0]
  cases hz : (F.f4.length == 0) with
  | true => exact sw (.inr hz)
  | false =>
    refine ev_cast bad ?_
    unfold kindOk
    rw [hz, if_neg h3]
    simp
theorem implField_ev (form : List Field) (i : Nat) (hi : i < form.length) (hl : form.length ≤ 9223372036854775807) (hf : fine (form.getD i zF)) :
    Ev (fun k => impl_isField.f k (form.take i) (form.getD i zF).f0 (form.getD i zF).f1 (form.getD i zF).f2 (form.getD i zF).f3 (form.getD i zF).f4 (form.getD i zF).f5 (form.getD i zF).f6) (fieldB form i) := by
  have hself : form[i]? = some (form.getD i zF) := by rw [getD_in hi, List.getElem?_eq_getElem hi]
  have hfirst := idxG_first (p := fun x : Field => x.f0.toList == (form.getD i zF).f0.toList) hself (by simp)
  have hFB : fieldB form i = (nameB (form.getD i zF).f0 && decide (fidx form (form.getD i zF).f0 = (i : Int)) && decide (1 ≤ (form.getD i zF).f1 ∧ (form.getD i zF).f1 ≤ 4) && ifOk form i (form.getD i zF).f6 && kindOk (form.getD i zF)) := rfl
  rw [hFB]
  clear hFB hself
  generalize form.getD i zF = F at *
  obtain ⟨g0, g4, g4s, g6⟩ := id hf
  have stop : ∀ b, b = false → Ev (fun k => impl_isField.j0 k (form.take i) true F.f0 F.f1 F.f2 F.f3 F.f4 F.f5 F.f6) b := fun b hb => hb ▸ Ev.step (fun k => rfl) (ev_now rfl)
  unfold impl_isField.f
  simp only [fieldOf_eq]
  refine Ev.bind (isName_ev F.f0 g0) (ev_ite (fun h1 => ?_) (fun h1 => stop _ (by simp [h1])))
  show Ev (fun k => impl_isField.j0 k (form.take i) (decide (fidx (form.take i) F.f0 ≥ 0)) F.f0 F.f1 F.f2 F.f3 F.f4 F.f5 F.f6) _
  by_cases h2 : fidx form F.f0 = (i : Int)
  case neg =>
    have h2' : ¬ fidx (form.take i) F.f0 < 0 := fun h => h2 (hfirst.2 h)
    rw [decide_eq_true (show fidx (form.take i) F.f0 ≥ 0 by omega)]
    exact stop _ (by simp [h2])
  have h2' := hfirst.1 h2
  rw [decide_eq_false (show ¬ fidx (form.take i) F.f0 ≥ 0 from by have : fidx (form.take i) F.f0 < 0 := h2'; omega)]
  rw [h1, decide_eq_true h2, Bool.true_and, Bool.true_and]
  have bad : ∀ b, b = false → Ev (fun k => impl_isField.j1 k true F.f0 F.f1 F.f2 F.f3 F.f4 F.f5 F.f6) b := fun b hb => hb ▸ Ev.step (fun k => rfl) (ev_now rfl)
  have good := kindSwitch_ev F hf
  refine Ev.step (fun k => rfl) ?_
  simp only [impl_isField.j0]
  refine ev_neg (by simp) (ev_bind0 (fieldOf_eq _ _) ?_)
  unfold ifOk
  refine ev_ite (fun h4 => ev_cast good (by simp [h4])) (fun h4 => ?_)
  have h4' : (F.f6.toList == []) = false := by simpa using h4
  rw [h4', Bool.false_or]
  have hif : fidx (form.take i) F.f6 = if ((0 : Nat) : Int) ≤ fidx form F.f6 ∧ fidx form F.f6 < ((0 + i : Nat) : Int) then fidx form F.f6 else -1 := idxG_take _ form 0 i
  refine ev_ite (fun h5 => bad _ ?_) (fun h5 => ?_)
  · have : ¬ (0 ≤ fidx form F.f6 ∧ fidx form F.f6 < (i : Int)) := by
      intro h
      rw [hif, if_pos (by omega)] at h5
      omega
    rw [decide_eq_false this]; simp
  · have hr : 0 ≤ fidx form F.f6 ∧ fidx form F.f6 < (i : Int) := by
      refine Classical.byContradiction (fun h => ?_)
      rw [hif, if_neg (by omega)] at h5
      omega
    have he : fidx (form.take i) F.f6 = fidx form F.f6 := by rw [hif, if_pos (by omega)]
    rw [decide_eq_true hr, Bool.true_and]
    have hlen : (form.take i).length = i := by simp; omega
    refine ev_pos (by omega) (ev_pos (by rw [he, hlen]; omega) ?_)
    have hrd : rd_T49 (form.take i) (fidx (form.take i) F.f6) = form.getD (fidx form F.f6).toNat zF := by
      unfold rd_T49
      rw [he, getD_in (by rw [hlen]; omega), List.getElem_take, getD_in (by omega)]
    simp only [hrd]
    by_cases h7 : (form.getD (fidx form F.f6).toNat zF).f1 = 4
    · have e : ((form.getD (fidx form F.f6).toNat zF).f1 != 4) = false := bne_eq_false_iff_eq.mpr h7
      rw [e, h7]
      exact ev_cast good (by simp)
    · have e : ((form.getD (fidx form F.f6).toNat zF).f1 != 4) = true := bne_iff_ne.mpr h7
      rw [e]
      rw [show ((form.getD (fidx form F.f6).toNat zF).f1 == 4) = false from beq_eq_false_iff_ne.mpr h7]
      exact bad _ (by simp)
theorem implForm_ev (form : List Field) (hl : form.length ≤ 9223372036854775807) (hf : ∀ f ∈ form, fine f) : Ev (fun k => impl_IsValidForm.f k form) (formB form) := by
  have h := ev_all0 (L := fun k i => impl_IsValidForm.l0 k form form (form.length : Int) i) form.length (fieldB form) false (decide ((form.length : Int) ≤ 10)) (fun _ => Ev.step (fun k => rfl) (ev_neg (by omega) (ev_now rfl))) ?h1 ?h2
  case h1 =>
    intro i hi _ hc y hy
    refine Ev.step (fun k => rfl) (ev_pos (by omega) (ev_pos (by omega) (ev_pos (by omega) (ev_pos (by omega) ?_))))
    simp only [rd_T49, Int.toNat_natCast]
    refine Ev.bind (implField_ev form i hi hl (hf _ (by rw [getD_in hi]; exact List.getElem_mem hi))) (ev_pos hc ?_)
    rw [wrap_succ hi hl]; exact hy
  case h2 =>
    intro i hi _ hc
    refine Ev.step (fun k => rfl) (ev_pos (by omega) (ev_pos (by omega) (ev_pos (by omega) (ev_pos (by omega) ?_))))
    simp only [rd_T49, Int.toNat_natCast]
    exact Ev.bind (implField_ev form i hi hl (hf _ (by rw [getD_in hi]; exact List.getElem_mem hi))) (ev_neg (by rw [hc]; simp) (ev_now rfl))
  refine ev_cast h ?_
  unfold formB
  cases (List.range form.length).all (fieldB form) <;> simp
end Go.Proofs.Ytcjloeeomhiblaa.X
set_option linter.unusedVariables false
set_option linter.unusedSimpArgs false
namespace Go.Proofs.Ytcjloeeomhiblaa.X
open Go.RowKit Go.Proofs.YtcjloeeomhiblaaW.PrintWords Go.Proofs.Ytcjloeeomhiblaa.E
abbrev Answer := S48
def fineA (a : Answer) : Prop := a.f0.size ≤ 9223372036854775807 ∧ a.f1.size ≤ 9223372036854775807
/-- The place of the last answered field ahead. -/
def lastI (form : List Field) (ans : List Answer) (i : Nat) : Int := if i = 0 then -1 else fidx form (ans.getD (i - 1) z48).f0
theorem lastI_succ (form : List Field) (ans : List Answer) (i : Nat) : lastI form ans (i + 1) = fidx form (ans.getD i z48).f0 := by
  unfold lastI
  rw [if_neg (by omega), Nat.add_sub_cancel]
def ansAt (form : List Field) (ans : List Answer) (i : Nat) : Bool := decide (lastI form ans i < fidx form (ans.getD i z48).f0) && textB (ans.getD i z48).f1
def ansB (form : List Field) (ans : List Answer) : Bool := formB form && (List.range ans.length).all (ansAt form ans)
theorem ans_short {form : List Field} {ans : List Answer} (h : (List.range ans.length).all (ansAt form ans) = true) : ans.length ≤ form.length := by
  have h' := all_range.1 h
  have low : ∀ i, i ≤ ans.length → (i : Int) - 1 ≤ lastI form ans i := by
    intro i
    induction i with
    | zero => intro _; simp [lastI]
    | succ i ih =>
      intro hi
      have h1 := ih (by omega)
      have h2 := h' i (by omega)
      simp only [ansAt, Bool.and_eq_true, decide_eq_true_eq] at h2
      rw [lastI_succ]
      omega
  rcases Nat.eq_zero_or_pos ans.length with e | e
  · omega
  · have h1 := low ans.length (Nat.le_refl _)
    have h3 : lastI form ans ans.length < (form.length : Int) := by
      rw [show ans.length = (ans.length - 1) + 1 from by omega, lastI_succ]
      rcases idxG_range (fun x : Field => x.f0.toList == (ans.getD (ans.length - 1) z48).f0.toList) form with h | h
      · show fidx form _ < _
        rw [fidx, h]; omega
      · exact h.2
    omega
theorem implAnswers_ev (form : List Field) (ans : List Answer) (hl : form.length ≤ 9223372036854775807) (hf : ∀ f ∈ form, fine f) (hla : ans.length ≤ 9223372036854775807) (ha : ∀ a ∈ ans, fineA a) :
    Ev (fun k => impl_IsValidAnswers.f k form ans) (ansB form ans) := by
  have h := ev_all (L := fun k (s : Int) i => impl_IsValidAnswers.l0 k form s ans (ans.length : Int) i) ans.length (lastI form ans) (ansAt form ans) false (formB form)
    (fun _ => Ev.step (fun k => rfl) (ev_neg (by omega) (Ev.bind (implForm_ev form hl hf) (ev_now rfl)))) ?h1 ?h2
  case h1 =>
    intro i hi _ hc y hy
    simp only [ansAt, Bool.and_eq_true, decide_eq_true_eq] at hc
    have hfa := ha _ (List.getElem_mem hi)
    rw [← getD_in hi z48] at hfa
    refine Ev.step (fun k => rfl) (ev_pos (by omega) (ev_pos (by omega) (ev_pos (by omega) ?_)))
    simp only [rd_T48, Int.toNat_natCast, fieldOf_eq]
    refine ev_some (ev_neg (by omega) (Ev.bind (isText_ev _ hfa.2) (ev_pos hc.2 ?_)))
    rw [wrap_succ hi hla]
    rw [lastI_succ] at hy
    exact hy
  case h2 =>
    intro i hi _ hc
    have hfa := ha _ (List.getElem_mem hi)
    rw [← getD_in hi z48] at hfa
    refine Ev.step (fun k => rfl) (ev_pos (by omega) (ev_pos (by omega) (ev_pos (by omega) ?_)))
    simp only [rd_T48, Int.toNat_natCast, fieldOf_eq]
    refine ev_some (ev_ite (fun _ => ev_now rfl) (fun h1 => Ev.bind (isText_ev _ hfa.2) (ev_neg ?_ (ev_now rfl))))
    intro h2
    have : ansAt form ans i = true := by
      simp only [ansAt, Bool.and_eq_true, decide_eq_true_eq]
      exact ⟨by omega, h2⟩
    rw [this] at hc; cases hc
  refine ev_cast h ?_
  unfold ansB
  cases (List.range ans.length).all (ansAt form ans) <;> simp
theorem specAnswers_ev (form : List Field) (ans : List Answer) (hl : form.length ≤ 9223372036854775807) (hf : ∀ f ∈ form, fine f) (hla : ans.length ≤ 9223372036854775807) (ha : ∀ a ∈ ans, fineA a) :
    Ev (fun k => spec_l23Answers.f k form ans) (ansB form ans) := by
  unfold spec_l23Answers.f
  refine Ev.bind (specForm_ev form hl hf) ?_
  unfold ansB
  have stop : ∀ b, b = false → Ev (fun k => spec_l23Answers.j0 k form ans true) b := fun b hb => hb ▸ Ev.step (fun k => rfl) (ev_now rfl)
  refine ev_ite (fun h1 => ?_) (fun h1 => stop _ (by simp [h1]))
  rw [h1, Bool.true_and]
  by_cases h2 : (ans.length : Int) > (form.length : Int)
  · rw [decide_eq_true h2]
    refine stop _ ?_
    rw [Bool.eq_false_iff]
    intro h
    have := ans_short h
    omega
  rw [decide_eq_false h2]
  refine Ev.step (fun k => rfl) ?_
  simp only [spec_l23Answers.j0]
  refine ev_neg (by simp) ?_
  have h := ev_all (L := fun k (s : Int) i => spec_l23Answers.l0 k form ans s i) ans.length (lastI form ans) (ansAt form ans) false true
    (fun _ => Ev.step (fun k => rfl) (ev_neg (by omega) (ev_now rfl))) ?h1 ?h2
  case h1 =>
    intro i hi _ hc y hy
    simp only [ansAt, Bool.and_eq_true, decide_eq_true_eq] at hc
    have hfa := ha _ (List.getElem_mem hi)
    rw [← getD_in hi z48] at hfa
    refine Ev.step (fun k => rfl) (ev_pos (by omega) (ev_pos (by omega) ?_))
    simp only [rd_T48, Int.toNat_natCast]
    refine Ev.bind (l23Find_ev form _ hl) (ev_neg (by omega) (Ev.bind (l21Text_ev _ hfa.2) (ev_pos hc.2 ?_)))
    rw [wrap_succ hi hla]
    rw [lastI_succ] at hy
    exact hy
  case h2 =>
    intro i hi _ hc
    have hfa := ha _ (List.getElem_mem hi)
    rw [← getD_in hi z48] at hfa
    refine Ev.step (fun k => rfl) (ev_pos (by omega) (ev_pos (by omega) ?_))
    simp only [rd_T48, Int.toNat_natCast]
    refine Ev.bind (l23Find_ev form _ hl) (ev_ite (fun _ => ev_now rfl) (fun h1 => Ev.bind (l21Text_ev _ hfa.2) (ev_neg ?_ (ev_now rfl))))
    intro h2
    have : ansAt form ans i = true := by
      simp only [ansAt, Bool.and_eq_true, decide_eq_true_eq]
      exact ⟨by omega, h2⟩
    rw [this] at hc; cases hc
  refine ev_cast h ?_
  cases (List.range ans.length).all (ansAt form ans) <;> rfl
end Go.Proofs.Ytcjloeeomhiblaa.X
set_option linter.unusedVariables false
set_option linter.unusedSimpArgs false
namespace Go.Proofs.Ytcjloeeomhiblaa.X
open Go.RowKit Go.Proofs.YtcjloeeomhiblaaW.PrintWords Go.Proofs.Ytcjloeeomhiblaa.E
theorem ba_inj {a b : ByteArray} (h : a.toList = b.toList) : a = b := by
  rw [Lib.toList_data, Lib.toList_data] at h
  exact ByteArray.ext (Array.toList_inj.1 h)
abbrev zA : Answer := z48
/-- The place of an answer's field. -/
abbrev pos (form : List Field) (ans : List Answer) (i : Nat) : Int := fidx form (ans.getD i zA).f0
structure Valid (form : List Field) (ans : List Answer) : Prop where
  len : form.length ≤ 10
  name : ∀ j, j < form.length → fidx form (form.getD j zF).f0 = (j : Int)
  up : ∀ i, i < ans.length → lastI form ans i < pos form ans i
  fld : ∀ j, j < form.length → fieldB form j = true
  txt : ∀ i, i < ans.length → textB (ans.getD i zA).f1 = true
theorem valid_of {form : List Field} {ans : List Answer} (h : ansB form ans = true) : Valid form ans := by
  unfold ansB formB at h
  rw [Bool.and_eq_true, Bool.and_eq_true, decide_eq_true_eq, all_range, all_range] at h
  obtain ⟨⟨h1, h2⟩, h3⟩ := h
  refine ⟨by omega, fun j hj => ?_, fun i hi => ?_, h2, fun i hi => ?_⟩
  · have := h2 j hj
    unfold fieldB at this
    simp only [Bool.and_eq_true, decide_eq_true_eq] at this
    exact this.1.1.1.2
  · have := h3 i hi
    unfold ansAt at this
    rw [Bool.and_eq_true, decide_eq_true_eq] at this
    exact this.1
  · have := h3 i hi
    unfold ansAt at this
    rw [Bool.and_eq_true] at this
    exact this.2
theorem fidx_at {form : List Field} {n : ByteArray} {j : Nat} (h : fidx form n = (j : Int)) : j < form.length ∧ (form.getD j zF).f0 = n := by
  rcases idxG_spec (fun x : Field => x.f0.toList == n.toList) form 0 with ⟨h1, _⟩ | ⟨j', x, h1, h2, h3, h4, _⟩
  · have : fidx form n = -1 := h1
    omega
  · have e : fidx form n = ((0 + j' : Nat) : Int) := h2
    obtain rfl : j' = j := by omega
    refine ⟨h1, ?_⟩
    rw [List.getD_eq_getElem?_getD, h3, Option.getD_some]
    exact ba_inj (by simpa using h4)
theorem pos_low {form : List Field} {ans : List Answer} (V : Valid form ans) : ∀ i, i ≤ ans.length → -1 ≤ lastI form ans i ∧ ∀ j, j < i → pos form ans j ≤ lastI form ans i := by
  intro i
  induction i with
  | zero => intro _; exact ⟨by simp [lastI], fun j hj => by omega⟩
  | succ i ih =>
    intro hi
    obtain ⟨h1, h2⟩ := ih (by omega)
    have h3 := V.up i (by omega)
    rw [lastI_succ]
    refine ⟨by show -1 ≤ pos form ans i; omega, fun j hj => ?_⟩
    show pos form ans j ≤ pos form ans i
    by_cases e : j = i
    · rw [e]; exact Int.le_refl _
    · have := h2 j (by omega)
      omega
theorem pos_in {form : List Field} {ans : List Answer} (V : Valid form ans) {i : Nat} (hi : i < ans.length) : ∃ k : Nat, pos form ans i = (k : Int) ∧ k < form.length ∧ (form.getD k zF).f0 = (ans.getD i zA).f0 := by
  have h1 := (pos_low V i (by omega)).1
  have h2 := V.up i hi
  have h3 : fidx form (ans.getD i zA).f0 = (((pos form ans i).toNat : Nat) : Int) := by
    have : fidx form (ans.getD i zA).f0 = pos form ans i := rfl
    omega
  exact ⟨_, h3, fidx_at h3⟩
/-- The answer to a field, as both look it up. -/
def look (ans : List Answer) (n : ByteArray) : Option Answer := ans.find? (fun x => x.f0.toList == n.toList)
end Go.Proofs.Ytcjloeeomhiblaa.X
set_option linter.unusedVariables false
set_option linter.unusedSimpArgs false
namespace Go.Proofs.Ytcjloeeomhiblaa.X
open Go.RowKit Go.Proofs.YtcjloeeomhiblaaW.PrintWords Go.Proofs.Ytcjloeeomhiblaa.E
def txtOf (ans : List Answer) (n : ByteArray) : ByteArray := match look ans n with
  | some x => x.f1
  | none => ⟨#[]⟩
def visAt (form : List Field) (ans : List Answer) (V : List Bool) (i : Nat) : Bool := if (form.getD i zF).f6.toList = ([] : List UInt8) then true else (if rdOf false V (fidx form (form.getD i zF).f6) = true then ((txtOf ans (form.getD i zF).f6).toList == ([121, 101, 115] : List UInt8)) else false)
def visL (form : List Field) (ans : List Answer) : Nat → List Bool
  | 0 => []
  | i + 1 => visL form ans i ++ [visAt form ans (visL form ans i) i]
theorem visL_length (form : List Field) (ans : List Answer) : ∀ i, (visL form ans i).length = i
  | 0 => rfl
  | i + 1 => by rw [visL, List.length_append, visL_length form ans i, List.length_singleton]
theorem if_at {form : List Field} {ans : List Answer} (V : Valid form ans) {i : Nat} (hi : i < form.length) (h : ¬ (form.getD i zF).f6.toList = ([] : List UInt8)) : ∃ q : Nat, fidx form (form.getD i zF).f6 = (q : Int) ∧ q < i := by
  have h1 := V.fld i hi
  unfold fieldB at h1
  simp only [Bool.and_eq_true] at h1
  have h2 := h1.1.2
  unfold ifOk at h2
  rw [Bool.or_eq_true, Bool.and_eq_true, decide_eq_true_eq] at h2
  rcases h2 with h2 | h2
  · exact absurd (by simpa using h2) h
  · exact ⟨(fidx form (form.getD i zF).f6).toNat, by omega, by omega⟩
theorem answerOf_eq (ans : List Answer) (n : ByteArray) : ∃ b, impl_answerOf.f ans n = some (txtOf ans n, b) ∧ b = (look ans n).isSome := by
  unfold impl_answerOf.f txtOf look
  cases ans.find? (fun y => y.f0.toList == n.toList) with
  | none => exact ⟨_, rfl, rfl⟩
  | some a => exact ⟨_, rfl, rfl⟩
theorem l23Text_ev (ans : List Answer) (n : ByteArray) (hl : ans.length ≤ 9223372036854775807) : Ev (fun k => spec_l23Text.f k ans n) (txtOf ans n, (look ans n).isSome) := by
  have h := ev_walk (L := fun k i => spec_l23Text.l0 k ans n i) (G := fun i r => ((match look r n with | some x => x.f1 | none => (⟨#[]⟩ : ByteArray)), (look r n).isSome)) ans (Ev.step (fun k => rfl) (ev_neg (by omega) (ev_now rfl))) ?step
  case step =>
    intro i x r hi hd hx hk
    refine Ev.step (fun k => rfl) (ev_pos (by omega) (ev_pos (by omega) ?_))
    simp only [rd_T48, Int.toNat_natCast, hx]
    by_cases c : x.f0.toList = n.toList
    · exact ev_pos c (ev_now (by simp [look, c]))
    · refine ev_neg c ?_
      rw [wrap_succ hi hl]
      have e : look (x :: r) n = look r n := by unfold look; rw [List.find?_cons_of_neg (by simpa using c)]
      rw [e]
      exact hk
  exact h
theorem implVis_ev (form : List Field) (ans : List Answer) (V : Valid form ans) : Ev (fun k => impl_visible.f k form ans) (visL form ans form.length) := by
  have hlen := V.len
  have h := ev_all (L := fun k (s : List Bool) i => impl_visible.l0 k form ans s form (form.length : Int) i) form.length (fun i => visL form ans i ++ List.replicate (form.length - i) false) (fun _ => true) [] (visL form ans form.length) ?h0 ?h1 (fun i hi _ hc => nomatch hc)
  case h0 =>
    intro _
    refine Ev.step (fun k => rfl) (ev_neg (by omega) (ev_now ?_))
    rw [Nat.sub_self, List.replicate_zero, List.append_nil]
  case h1 =>
    intro i hi _ _ y hy
    have hvl := visL_length form ans i
    have hsl : (visL form ans i ++ List.replicate (form.length - i) false).length = form.length := by rw [List.length_append, hvl, List.length_replicate]; omega
    have hset : ∀ b, (visL form ans i ++ List.replicate (form.length - i) false).set i b = (visL form ans i ++ [b]) ++ List.replicate (form.length - (i + 1)) false := by
      intro b
      rw [List.set_append_right _ _ (by omega), hvl, Nat.sub_self, show form.length - i = (form.length - (i + 1)) + 1 by omega, List.replicate_succ, List.set_cons_zero, List.append_assoc]
      rfl
    have hgo : ∀ b, b = visAt form ans (visL form ans i) i → Ev (fun k => impl_visible.l0 k form ans ((visL form ans i ++ List.replicate (form.length - i) false).set (i : Int).toNat b) form (form.length : Int) (wrap64 ((i : Int) + 1))) y := by
      intro b hb
      rw [Int.toNat_natCast, hset, wrap_succ hi (by omega), hb]
      exact hy
    refine Ev.step (fun k => rfl) (ev_pos (by omega) (ev_pos (by omega) (ev_pos (by omega) ?_)))
    simp only [rd_T49, Int.toNat_natCast]
    by_cases c : (form.getD i zF).f6.toList = ([] : List UInt8)
    · refine ev_pos c (ev_pos (by rw [hsl]; omega) ?_)
      exact hgo true (by unfold visAt; rw [if_pos c])
    · refine ev_neg c ?_
      obtain ⟨b, hb, _⟩ := answerOf_eq ans (form.getD i zF).f6
      obtain ⟨q, hq, hqi⟩ := if_at V hi c
      refine ev_bind0 hb (ev_bind0 (fieldOf_eq _ _) ?_)
      rw [show fidx form (form.getD i zF).f6 = (q : Int) from hq]
      have hr : rdOf false (visL form ans i ++ List.replicate (form.length - i) false) (q : Int) = rdOf false (visL form ans i) (q : Int) := by
        unfold rdOf
        rw [Int.toNat_natCast, List.getD_eq_getElem?_getD, List.getD_eq_getElem?_getD, List.getElem?_append_left (by omega)]
      rw [hr]
      refine ev_pos (by omega) (ev_pos (by rw [hsl]; omega) ?_)
      by_cases d : rdOf false (visL form ans i) (q : Int) = true
      · refine ev_pos d (ev_pos (by rw [hsl]; omega) ?_)
        exact hgo _ (by unfold visAt; rw [if_neg c, hq, if_pos d])
      · refine ev_neg d (ev_pos (by rw [hsl]; omega) ?_)
        exact hgo false (by unfold visAt; rw [if_neg c, hq, if_neg d])
  unfold impl_visible.f
  rw [Int.toNat_natCast]
  refine ev_pos (by omega) (ev_pos (by omega) ?_)
  rw [if_pos (by rw [all_range]; intro i hi; rfl)] at h
  exact h
theorem specVis_ev (form : List Field) (ans : List Answer) (V : Valid form ans) (hla : ans.length ≤ 9223372036854775807) : Ev (fun k => spec_l23Visible.f k form ans) (visL form ans form.length) := by
  have hlen := V.len
  have h := ev_all (L := fun k (s : List Bool) i => spec_l23Visible.l0 k form ans s i) form.length (fun i => visL form ans i) (fun _ => true) [] (visL form ans form.length) ?h0 ?h1 (fun i hi _ hc => nomatch hc)
  case h0 =>
    intro _
    exact Ev.step (fun k => rfl) (ev_neg (by omega) (ev_now rfl))
  case h1 =>
    intro i hi _ _ y hy
    have hvl := visL_length form ans i
    have hgo : ∀ b, b = visAt form ans (visL form ans i) i → Ev (fun k => spec_l23Visible.l0 k form ans (visL form ans i ++ [b]) (wrap64 ((i : Int) + 1))) y := by
      intro b hb
      rw [wrap_succ hi (by omega), hb]
      exact hy
    refine Ev.step (fun k => rfl) (ev_pos (by omega) (ev_pos (by omega) ?_))
    simp only [rd_T49, Int.toNat_natCast]
    by_cases c : (form.getD i zF).f6.toList = ([] : List UInt8)
    · refine ev_pos c (ev_pos (by rw [hvl]; omega) ?_)
      exact hgo true (by unfold visAt; rw [if_pos c])
    · refine ev_neg c ?_
      obtain ⟨q, hq, hqi⟩ := if_at V hi c
      refine Ev.bind (l23Text_ev ans _ hla) (Ev.bind (l23Find_ev form _ (by omega)) ?_)
      rw [show fidx form (form.getD i zF).f6 = (q : Int) from hq]
      refine ev_pos (by omega) (ev_pos (by rw [hvl]; omega) ?_)
      by_cases d : rdOf false (visL form ans i) (q : Int) = true
      · refine ev_pos d (ev_pos (by rw [hvl]; omega) ?_)
        exact hgo _ (by unfold visAt; rw [if_neg c, hq, if_pos d])
      · refine ev_neg d (ev_pos (by rw [hvl]; omega) ?_)
        exact hgo false (by unfold visAt; rw [if_neg c, hq, if_neg d])
  unfold spec_l23Visible.f
  rw [if_pos (by rw [all_range]; intro i hi; rfl)] at h
  exact h
end Go.Proofs.Ytcjloeeomhiblaa.X
set_option linter.unusedVariables false
set_option linter.unusedSimpArgs false
namespace Go.Proofs.Ytcjloeeomhiblaa.X
open Go.RowKit Go.Proofs.YtcjloeeomhiblaaW.PrintWords Go.Proofs.Ytcjloeeomhiblaa.E
theorem markLoop : ∀ (n : Nat) (x : Int) (s : ByteArray), x.toNat = n → 0 ≤ x → s.size + n ≤ 4611686018427387905 → ∃ r, Ev (fun k => laws_markText.l0 k x s) r := by
  intro n
  induction n using Nat.strongRecOn with
  | _ n ih =>
    intro x s hn h0 hb
    by_cases c : x > 0
    · have hs : (strOfNums [(wrap64 (48 + (Int.tmod x 10))) % 256]).size = 1 := by rw [strOfNums_size]; rfl
      have hd : wrap64 (Int.tdiv x 10) = x / 10 := by rw [Int.tdiv_eq_ediv_of_nonneg h0, wrap_id (by omega) (by omega)]
      obtain ⟨r, h⟩ := ih (x / 10).toNat (by omega) (x / 10) (strOfNums [(wrap64 (48 + (Int.tmod x 10))) % 256] ++ s) rfl (by omega) (by rw [ByteArray.size_append, hs]; omega)
      refine ⟨r, Ev.step (fun k => rfl) (ev_pos c (ev_some (ev_pos (by rw [hs]; omega) ?_)))⟩
      rw [hd]
      exact h
    · exact ⟨_, Ev.step (fun k => rfl) (ev_neg c (ev_pos (by omega) (ev_now rfl)))⟩
theorem mark_ex (q : Int) (h : q ≤ 4611686018427387905) : ∃ r, Ev (fun k => laws_markText.f k q) r := by
  unfold laws_markText.f
  by_cases c : q ≤ 0
  · exact ⟨_, ev_pos c (ev_now rfl)⟩
  · obtain ⟨r, h⟩ := markLoop q.toNat q (⟨#[]⟩ : ByteArray) rfl (by omega) (by rw [show (⟨#[]⟩ : ByteArray).size = 0 from rfl]; omega)
    exact ⟨r, ev_neg c h⟩
open Classical in
noncomputable def mt (q : Int) : ByteArray := if h : ∃ r, Ev (fun k => laws_markText.f k q) r then Classical.choose h else (⟨#[]⟩ : ByteArray)
theorem mt_ev (q : Int) (h : q ≤ 4611686018427387905) : Ev (fun k => laws_markText.f k q) (mt q) := by
  unfold mt
  rw [dif_pos (mark_ex q h)]
  exact Classical.choose_spec (mark_ex q h)
end Go.Proofs.Ytcjloeeomhiblaa.X
set_option linter.unusedVariables false
set_option linter.unusedSimpArgs false
namespace Go.Proofs.Ytcjloeeomhiblaa.X
open Go.RowKit Go.Proofs.YtcjloeeomhiblaaW.PrintWords Go.Proofs.Ytcjloeeomhiblaa.E
noncomputable def mkS (q : Int) (_ : ByteArray) : ByteArray := mt q
theorem sum1 {α : Type} (L : List α) : (L.map (fun _ => 1)).sum = L.length := by
  induction L with
  | nil => rfl
  | cons e L ih => rw [List.map_cons, List.sum_cons, ih, List.length_cons]; omega
theorem markStr (L : List ByteArray) (q : Int) (h0 : 0 ≤ q) (hq : q + L.length ≤ 4611686018427387904) : Ev (fun k => laws_markStringS.f k L q) (q + (L.length : Nat), markAll mkS (fun _ => 1) q L) := by
  have h := ev_mark (L := fun k l q i => laws_markStringS.l0 k l q i) L mkS (fun _ => 1) (fun out q ho => Ev.step (fun k => rfl) (ev_neg (by omega) (ev_now rfl))) ?hs q h0 (by rw [sum1]; omega)
  case hs =>
    intro out q i x y hi ho hx hxm hg h0 hb h
    have hw1 : wrap64 (q + 1) = q + (1 : Nat) := by rw [wrap_id (by omega) (by omega)]; omega
    refine Ev.step (fun k => rfl) (ev_pos (by omega) (Ev.bind (mt_ev q (by omega)) (ev_pos (by omega) ?_)))
    rw [hw1, wrap_succ hi (by omega), Int.toNat_natCast]
    exact h
  rw [sum1] at h
  exact h
end Go.Proofs.Ytcjloeeomhiblaa.X
set_option linter.unusedVariables false
set_option linter.unusedSimpArgs false
namespace Go.Proofs.Ytcjloeeomhiblaa.X
open Go.RowKit Go.Proofs.YtcjloeeomhiblaaW.PrintWords Go.Proofs.Ytcjloeeomhiblaa.E
noncomputable def mkF (q : Int) (x : S49) : S49 := ⟨mt q, q + 1, q + 2, q + 3, markAll mkS (fun _ => 1) (q + 4) x.f4, (Int.tmod (q + 4 + x.f4.length) 3 == 0), mt (q + 5 + x.f4.length)⟩
def wF (x : S49) : Nat := 6 + x.f4.length
theorem wF_len (L : List S49) : L.length ≤ (L.map wF).sum := by
  induction L with
  | nil => exact Nat.le_refl _
  | cons e L ih => rw [List.map_cons, List.sum_cons, List.length_cons]; unfold wF at *; omega
theorem markField (L : List S49) (q : Int) (h0 : 0 ≤ q) (hq : q + (((L.map wF).sum : Nat) : Int) ≤ 4611686018427387904) : Ev (fun k => laws_markFieldS.f k L q) (q + (((L.map wF).sum : Nat) : Int), markAll mkF wF q L) := by
  refine ev_mark (L := fun k l q i => laws_markFieldS.l0 k l q i) L mkF wF (fun out q ho => Ev.step (fun k => rfl) (ev_neg (by omega) (ev_now rfl))) ?hs q h0 (by omega)
  case hs =>
    intro out q i x y hi ho hx hxm hg h0 hb h
    have hc : (wF x : Int) = 6 + (x.f4.length : Int) := by unfold wF; omega
    have hle : wF x ≤ (L.map wF).sum := le_sum hxm
    have hll := wF_len L
    have e1 : wrap64 (q + 1) = q + 1 := wrap_id (by omega) (by omega)
    have e2 : wrap64 (q + 1 + 1) = q + 2 := by rw [wrap_id (by omega) (by omega)]; omega
    have e3 : wrap64 (q + 2 + 1) = q + 3 := by rw [wrap_id (by omega) (by omega)]; omega
    have e4 : wrap64 (q + 3 + 1) = q + 4 := by rw [wrap_id (by omega) (by omega)]; omega
    have hrd : rd_T49 out (i : Int) = x := by unfold rd_T49; rw [Int.toNat_natCast]; exact hg _
    refine Ev.step (fun k => rfl) (ev_pos (by omega) (ev_pos (by omega) (Ev.bind (mt_ev q (by omega)) ?_)))
    simp only [e1, e2, e3, e4, hrd]
    have e5 : wrap64 (q + 4 + ((x.f4.length : Nat) : Int) + 1) = q + 5 + (x.f4.length : Int) := by rw [wrap_id (by omega) (by omega)]; omega
    have e6 : wrap64 (q + 5 + (x.f4.length : Int) + 1) = q + (wF x : Int) := by rw [wrap_id (by omega) (by omega)]; omega
    refine Ev.bind (markStr x.f4 (q + 4) (by omega) (by omega)) ?_
    simp only [e5, e6]
    refine Ev.bind (mt_ev _ (by omega)) ?_
    rw [wrap_succ hi (by omega), Int.toNat_natCast]
    exact h
end Go.Proofs.Ytcjloeeomhiblaa.X
set_option linter.unusedVariables false
set_option linter.unusedSimpArgs false
namespace Go.Proofs.Ytcjloeeomhiblaa.X
open Go.RowKit Go.Proofs.YtcjloeeomhiblaaW.PrintWords Go.Proofs.Ytcjloeeomhiblaa.E
noncomputable def mkA (q : Int) (_ : S48) : S48 := ⟨mt q, mt (q + 1)⟩
theorem sum2 {α : Type} (L : List α) : (L.map (fun _ => 2)).sum = 2 * L.length := by
  induction L with
  | nil => rfl
  | cons e L ih => rw [List.map_cons, List.sum_cons, ih, List.length_cons]; omega
theorem markAns (L : List S48) (q : Int) (h0 : 0 ≤ q) (hq : q + 2 * L.length ≤ 4611686018427387904) : Ev (fun k => laws_markAnswerS.f k L q) (q + (2 * L.length : Nat), markAll mkA (fun _ => 2) q L) := by
  have h := ev_mark (L := fun k l q i => laws_markAnswerS.l0 k l q i) L mkA (fun _ => 2) (fun out q ho => Ev.step (fun k => rfl) (ev_neg (by omega) (ev_now rfl))) ?hs q h0 (by rw [sum2]; omega)
  case hs =>
    intro out q i x y hi ho hx hxm hg h0 hb h
    have hw1 : wrap64 (q + 1) = q + 1 := wrap_id (by omega) (by omega)
    have hw2 : wrap64 (q + 1 + 1) = q + (2 : Nat) := by rw [wrap_id (by omega) (by omega)]; omega
    refine Ev.step (fun k => rfl) (ev_pos (by omega) (Ev.bind (mt_ev q (by omega)) (ev_pos (by omega) (ev_some ?_))))
    rw [hw1, hw2, wrap_succ hi (by omega)]
    refine Ev.bind (mt_ev (q + 1) (by omega)) ?_
    rw [Int.toNat_natCast, List.set_set, show (rd_T48 (out.set i (⟨mt q, (rd_T48 out i).f1⟩ : S48)) (i : Int)).f0 = mt q by unfold rd_T48; rw [Int.toNat_natCast, List.getD_eq_getElem?_getD, List.getElem?_set_self (by omega)]; rfl]
    exact h
  rw [sum2] at h
  exact h
end Go.Proofs.Ytcjloeeomhiblaa.X
set_option linter.unusedVariables false
set_option linter.unusedSimpArgs false
namespace Go.Proofs.Ytcjloeeomhiblaa.X
open Go.RowKit Go.Proofs.YtcjloeeomhiblaaW.PrintWords Go.Proofs.Ytcjloeeomhiblaa.E
theorem heldAns (L : List S48) (q0 : Int) (h0 : 0 ≤ q0) (hq : q0 + 2 * L.length ≤ 4611686018427387904) : Ev (fun k => laws_heldAnswerS.f k (markAll mkA (fun _ => 2) q0 L) q0) (q0 + (2 * L.length : Nat)) := by
  have hlen := markAll_length mkA (fun _ => 2) L q0
  have h := ev_held (H := fun k q i => laws_heldAnswerS.l0 k (markAll mkA (fun _ => 2) q0 L) q i) L (markAll mkA (fun _ => 2) q0 L) mkA (fun _ => 2) q0 rfl (fun q => Ev.step (fun k => rfl) (ev_neg (by omega) (ev_now rfl))) ?hs h0 (by rw [sum2]; omega)
  case hs =>
    intro q i x y hi hxm hx hg h0 hb h
    have hw1 : wrap64 (q + 1) = q + 1 := wrap_id (by omega) (by omega)
    have hw2 : wrap64 (q + 1 + 1) = q + (2 : Nat) := by rw [wrap_id (by omega) (by omega)]; omega
    have hr : rd_T48 (markAll mkA (fun _ => 2) q0 L) (i : Int) = mkA q x := by unfold rd_T48; rw [Int.toNat_natCast]; exact hg _
    refine Ev.step (fun k => rfl) (ev_pos (by omega) (ev_pos (by omega) (Ev.bind (mt_ev q (by omega)) ?_)))
    rw [hr, hw1, hw2, wrap_succ hi (by omega)]
    exact ev_pos rfl (Ev.bind (mt_ev (q + 1) (by omega)) (ev_pos rfl h))
  rw [sum2] at h
  exact h
end Go.Proofs.Ytcjloeeomhiblaa.X
set_option linter.unusedVariables false
namespace Go.Proofs.Ytcjloeeomhiblaa.X
open Go.RowKit Go.Proofs.YtcjloeeomhiblaaW.PrintWords Go.Proofs.Ytcjloeeomhiblaa.E
def wt40 (x : S40) : Nat := x.f0.size + (x.f4.length + (x.f4.map (fun y => y.size)).sum) + x.f6.size
def wt43 (x : S43) : Nat := x.f0.size + x.f1.size
end Go.Proofs.Ytcjloeeomhiblaa.X
set_option linter.unusedVariables false
namespace Go.Proofs.Ytcjloeeomhiblaa.X
open Go.RowKit Go.Proofs.YtcjloeeomhiblaaW.PrintWords Go.Proofs.Ytcjloeeomhiblaa.E
theorem laws_szStringS_ev (x : List (ByteArray)) (g0 : x.length ≤ 9223372036854775807) (g1 : ∀ y ∈ x, (y.size ≤ 9223372036854775807)) (left : Int) (h0 : 0 ≤ left) (h1 : left ≤ 4611686018427387904) :
    Ev (fun k => laws_szStringS.f k x left) (if (((x.length + (x.map (fun y => y.size)).sum) : Nat) : Int) ≤ left then left - (((x.length + (x.map (fun y => y.size)).sum) : Nat) : Int) else -1) := by
  unfold laws_szStringS.f
  have e0 : wrap64 (left - ((x.length : Nat) : Int)) = left - ((x.length : Nat) : Int) := wrap_id (by omega) (by omega)
  simp only [e0]
  by_cases c : ((x.length : Nat) : Int) ≤ left
  case neg => exact ev_pos (by omega) (ev_now (by first | rfl | rw [if_neg (by omega)]))
  refine ev_neg (by omega) ?_
  have h := ev_sz (L := fun k l i => laws_szStringS.l0 k x l i) x (fun y => y.size) (fun l => Ev.step (fun k => rfl) (ev_neg (by omega) (ev_now rfl))) ?step (left - ((x.length : Nat) : Int)) (by omega) (by omega)
  case step =>
    intro l i y r l0 l1 hi hm hd hy hn
    refine Ev.step (fun k => rfl) (ev_pos (by omega) (ev_pos (by omega) ?_))
    simp only [rdOf, Int.toNat_natCast, hd]
    have hg := g1 y hm
    have e1 : wrap64 (l - ((y.size : Nat) : Int)) = l - ((y.size : Nat) : Int) := wrap_id (by omega) (by omega)
    simp only [e1]
    by_cases c1 : ((y.size : Nat) : Int) ≤ l
    case neg => exact ev_pos (by omega) (ev_now (hn c1).symm)
    refine ev_neg (by omega) ?_
    rw [wrap_succ hi (by omega)]
    exact hy c1
  refine ev_cast h ?_
  by_cases c2 : (((x.map (fun y => y.size)).sum : Nat) : Int) ≤ left - ((x.length : Nat) : Int)
  · rw [if_pos c2, if_pos (by omega)]; omega
  · rw [if_neg c2, if_neg (by omega)]
end Go.Proofs.Ytcjloeeomhiblaa.X
set_option linter.unusedVariables false
namespace Go.Proofs.Ytcjloeeomhiblaa.X
open Go.RowKit Go.Proofs.YtcjloeeomhiblaaW.PrintWords Go.Proofs.Ytcjloeeomhiblaa.E
theorem laws_szField_ev (x : S40) (g0 : x.f0.size ≤ 9223372036854775807) (g1 : x.f4.length ≤ 9223372036854775807) (g2 : ∀ y ∈ x.f4, (y.size ≤ 9223372036854775807)) (g3 : x.f6.size ≤ 9223372036854775807) (left : Int) (h0 : 0 ≤ left) (h1 : left ≤ 4611686018427387904) :
    Ev (fun k => laws_szField.f k (x.f0) (x.f1) (x.f2) (x.f3) (x.f4) (x.f5) (x.f6) left) (if (((wt40 x) : Nat) : Int) ≤ left then left - (((wt40 x) : Nat) : Int) else -1) := by
  unfold laws_szField.f
  unfold wt40
  have e0 : wrap64 (left - ((x.f0.size : Nat) : Int)) = left - ((x.f0.size : Nat) : Int) := wrap_id (by omega) (by omega)
  simp only [e0]
  by_cases c0 : ((x.f0.size : Nat) : Int) ≤ left
  case neg =>
    exact ev_pos (by omega) (ev_now (by first | rfl | rw [if_neg (by omega)]))
  refine ev_neg (by omega) ?_
  refine Ev.bind (laws_szStringS_ev _ (by assumption) (by assumption) _ (by omega) (by omega)) ?_
  by_cases c4 : (((x.f4.length + (x.f4.map (fun y => y.size)).sum) : Nat) : Int) ≤ (left - ((x.f0.size : Nat) : Int))
  case neg =>
    rw [if_neg c4]
    exact ev_pos (by omega) (ev_now (by first | rfl | rw [if_neg (by omega)]))
  rw [if_pos c4]
  refine ev_neg (by omega) ?_
  have e6 : wrap64 (((left - ((x.f0.size : Nat) : Int)) - (((x.f4.length + (x.f4.map (fun y => y.size)).sum) : Nat) : Int)) - ((x.f6.size : Nat) : Int)) = ((left - ((x.f0.size : Nat) : Int)) - (((x.f4.length + (x.f4.map (fun y => y.size)).sum) : Nat) : Int)) - ((x.f6.size : Nat) : Int) := wrap_id (by omega) (by omega)
  simp only [e6]
  by_cases c6 : ((x.f6.size : Nat) : Int) ≤ ((left - ((x.f0.size : Nat) : Int)) - (((x.f4.length + (x.f4.map (fun y => y.size)).sum) : Nat) : Int))
  case neg =>
    exact ev_pos (by omega) (ev_now (by first | rfl | rw [if_neg (by omega)]))
  refine ev_neg (by omega) ?_
  exact ev_now (by first | rfl | omega | (rw [if_pos (by omega)]; omega))
end Go.Proofs.Ytcjloeeomhiblaa.X
set_option linter.unusedVariables false
namespace Go.Proofs.Ytcjloeeomhiblaa.X
open Go.RowKit Go.Proofs.YtcjloeeomhiblaaW.PrintWords Go.Proofs.Ytcjloeeomhiblaa.E
theorem laws_szFieldS_ev (x : List (S40)) (g0 : x.length ≤ 9223372036854775807) (g1 : ∀ y ∈ x, (y.f0.size ≤ 9223372036854775807) ∧ (y.f4.length ≤ 9223372036854775807) ∧ (∀ z ∈ y.f4, (z.size ≤ 9223372036854775807)) ∧ (y.f6.size ≤ 9223372036854775807)) (left : Int) (h0 : 0 ≤ left) (h1 : left ≤ 4611686018427387904) :
    Ev (fun k => laws_szFieldS.f k x left) (if (((x.length + (x.map (fun y => (wt40 y))).sum) : Nat) : Int) ≤ left then left - (((x.length + (x.map (fun y => (wt40 y))).sum) : Nat) : Int) else -1) := by
  unfold laws_szFieldS.f
  have e0 : wrap64 (left - ((x.length : Nat) : Int)) = left - ((x.length : Nat) : Int) := wrap_id (by omega) (by omega)
  simp only [e0]
  by_cases c : ((x.length : Nat) : Int) ≤ left
  case neg => exact ev_pos (by omega) (ev_now (by first | rfl | rw [if_neg (by omega)]))
  refine ev_neg (by omega) ?_
  have h := ev_sz (L := fun k l i => laws_szFieldS.l0 k x l i) x (fun y => (wt40 y)) (fun l => Ev.step (fun k => rfl) (ev_neg (by omega) (ev_now rfl))) ?step (left - ((x.length : Nat) : Int)) (by omega) (by omega)
  case step =>
    intro l i y r l0 l1 hi hm hd hy hn
    refine Ev.step (fun k => rfl) (ev_pos (by omega) (ev_pos (by omega) ?_))
    simp only [rd_T40, Int.toNat_natCast, hd]
    have hg := g1 y hm
    obtain ⟨q0, q1, q2, q3⟩ := hg
    refine Ev.bind (laws_szField_ev y (by assumption) (by assumption) (by assumption) (by assumption) l l0 l1) ?_
    by_cases c1 : (((wt40 y) : Nat) : Int) ≤ l
    case neg => rw [if_neg c1]; exact ev_pos (by omega) (ev_now (hn c1).symm)
    rw [if_pos c1]
    refine ev_neg (by omega) ?_
    rw [wrap_succ hi (by omega)]
    exact hy c1
  refine ev_cast h ?_
  by_cases c2 : (((x.map (fun y => (wt40 y))).sum : Nat) : Int) ≤ left - ((x.length : Nat) : Int)
  · rw [if_pos c2, if_pos (by omega)]; omega
  · rw [if_neg c2, if_neg (by omega)]
end Go.Proofs.Ytcjloeeomhiblaa.X
set_option linter.unusedVariables false
namespace Go.Proofs.Ytcjloeeomhiblaa.X
open Go.RowKit Go.Proofs.YtcjloeeomhiblaaW.PrintWords Go.Proofs.Ytcjloeeomhiblaa.E
theorem laws_toStringS_ev (x : List (ByteArray)) (hb : (x.length + (x.map (fun y => y.size)).sum) ≤ 1048576) : Ev (fun k => laws_toStringS.f k x) (x) := by
  unfold laws_toStringS.f
  refine ev_pos (by omega) (ev_pos (by simp only [Int.toNat_natCast]; omega) ?_)
  simp only [Int.toNat_natCast]
  refine ev_cast (r := x.map id) ?_ (List.map_id x)
  refine ev_fill (L := fun k o i => laws_toStringS.l0 k x o i) x id _ (fun o => Ev.step (fun k => rfl) (ev_neg (by omega) (ev_now rfl))) ?_
  intro o i y r hi hx hd hl hk
  refine Ev.step (fun k => rfl) (ev_pos (by omega) (ev_pos (by omega) ?_))
  simp only [rdOf, Int.toNat_natCast, hd]
  refine ev_pos (by omega) ?_
  rw [wrap_succ hi (by omega)]
  exact hk
end Go.Proofs.Ytcjloeeomhiblaa.X
set_option linter.unusedVariables false
namespace Go.Proofs.Ytcjloeeomhiblaa.X
open Go.RowKit Go.Proofs.YtcjloeeomhiblaaW.PrintWords Go.Proofs.Ytcjloeeomhiblaa.E
def conv40 (x : S40) : S49 := ⟨x.f0, x.f1, x.f2, x.f3, x.f4, x.f5, x.f6⟩
theorem laws_toField_ev (x : S40) (hb : (wt40 x) ≤ 1048576) : Ev (fun k => laws_toField.f k (x.f0) (x.f1) (x.f2) (x.f3) (x.f4) (x.f5) (x.f6)) ((conv40 x).f0, (conv40 x).f1, (conv40 x).f2, (conv40 x).f3, (conv40 x).f4, (conv40 x).f5, (conv40 x).f6) := by
  unfold laws_toField.f
  unfold wt40 at hb
  refine Ev.bind (laws_toStringS_ev x.f4 (by omega)) ?_
  exact ev_now rfl
end Go.Proofs.Ytcjloeeomhiblaa.X
set_option linter.unusedVariables false
namespace Go.Proofs.Ytcjloeeomhiblaa.X
open Go.RowKit Go.Proofs.YtcjloeeomhiblaaW.PrintWords Go.Proofs.Ytcjloeeomhiblaa.E
theorem laws_toFieldS_ev (x : List (S40)) (hb : (x.length + (x.map (fun y => (wt40 y))).sum) ≤ 1048576) : Ev (fun k => laws_toFieldS.f k x) (x.map conv40) := by
  unfold laws_toFieldS.f
  refine ev_pos (by omega) (ev_pos (by simp only [Int.toNat_natCast]; omega) ?_)
  simp only [Int.toNat_natCast]
  refine ev_fill (L := fun k o i => laws_toFieldS.l0 k x o i) x conv40 _ (fun o => Ev.step (fun k => rfl) (ev_neg (by omega) (ev_now rfl))) ?_
  intro o i y r hi hx hd hl hk
  refine Ev.step (fun k => rfl) (ev_pos (by omega) (ev_pos (by omega) ?_))
  simp only [rd_T40, Int.toNat_natCast, hd]
  have hq := le_sum (f := fun y => (wt40 y)) (List.mem_of_getElem? hx)
  refine Ev.bind (laws_toField_ev y (by omega)) ?_
  refine ev_pos (by omega) ?_
  rw [wrap_succ hi (by omega)]
  exact hk
end Go.Proofs.Ytcjloeeomhiblaa.X
set_option linter.unusedVariables false
namespace Go.Proofs.Ytcjloeeomhiblaa.X
open Go.RowKit Go.Proofs.YtcjloeeomhiblaaW.PrintWords Go.Proofs.Ytcjloeeomhiblaa.E
theorem laws_eqStringS_ev (x : List (ByteArray)) (hl0 : x.length ≤ 9223372036854775807) : Ev (fun k => laws_eqStringS.f k x x) true := by
  unfold laws_eqStringS.f
  refine ev_pos rfl ?_
  refine ev_same (L := fun k i => laws_eqStringS.l0 k x x i) x.length (Ev.step (fun k => rfl) (ev_neg (by omega) (ev_now rfl))) ?_
  intro i hi hk
  refine Ev.step (fun k => rfl) (ev_pos (by omega) (ev_pos (by omega) (ev_pos (by omega) ?_)))
  refine ev_pos rfl ?_
  rw [wrap_succ hi (by omega)]
  exact hk
end Go.Proofs.Ytcjloeeomhiblaa.X
set_option linter.unusedVariables false
namespace Go.Proofs.Ytcjloeeomhiblaa.X
open Go.RowKit Go.Proofs.YtcjloeeomhiblaaW.PrintWords Go.Proofs.Ytcjloeeomhiblaa.E
theorem laws_eqField_ev (x : S49) (hl0 : x.f4.length ≤ 9223372036854775807) : Ev (fun k => laws_eqField.f k (x.f0) (x.f1) (x.f2) (x.f3) (x.f4) (x.f5) (x.f6) (x.f0) (x.f1) (x.f2) (x.f3) (x.f4) (x.f5) (x.f6)) true := by
  unfold laws_eqField.f
  repeat' (first | exact ev_now rfl | refine ev_pos rfl ?_ | refine ev_neg (by simp) ?_ | refine Ev.bind (laws_eqStringS_ev _ (by assumption)) ?_)
end Go.Proofs.Ytcjloeeomhiblaa.X
set_option linter.unusedVariables false
namespace Go.Proofs.Ytcjloeeomhiblaa.X
open Go.RowKit Go.Proofs.YtcjloeeomhiblaaW.PrintWords Go.Proofs.Ytcjloeeomhiblaa.E
theorem laws_eqFieldS_ev (x : List (S49)) (hl0 : x.length ≤ 9223372036854775807) (hl1 : ∀ y ∈ x, (y.f4.length ≤ 9223372036854775807)) : Ev (fun k => laws_eqFieldS.f k x x) true := by
  unfold laws_eqFieldS.f
  refine ev_pos rfl ?_
  refine ev_same (L := fun k i => laws_eqFieldS.l0 k x x i) x.length (Ev.step (fun k => rfl) (ev_neg (by omega) (ev_now rfl))) ?_
  intro i hi hk
  refine Ev.step (fun k => rfl) (ev_pos (by omega) (ev_pos (by omega) (ev_pos (by omega) ?_)))
  have hy := hl1 _ (List.getElem_mem hi)
  have hr : rd_T49 x (i : Int) = x[i] := by simp [rd_T49, List.getD_eq_getElem?_getD, List.getElem?_eq_getElem hi]
  rw [hr]
  refine Ev.bind (laws_eqField_ev _ (by first | exact hy | exact hy)) ?_
  refine ev_pos rfl ?_
  rw [wrap_succ hi (by omega)]
  exact hk
end Go.Proofs.Ytcjloeeomhiblaa.X
set_option linter.unusedVariables false
namespace Go.Proofs.Ytcjloeeomhiblaa.X
open Go.RowKit Go.Proofs.YtcjloeeomhiblaaW.PrintWords Go.Proofs.Ytcjloeeomhiblaa.E
theorem laws_szAnswer_ev (x : S43) (g0 : x.f0.size ≤ 9223372036854775807) (g1 : x.f1.size ≤ 9223372036854775807) (left : Int) (h0 : 0 ≤ left) (h1 : left ≤ 4611686018427387904) :
    Ev (fun k => laws_szAnswer.f (x.f0) (x.f1) left) (if (((wt43 x) : Nat) : Int) ≤ left then left - (((wt43 x) : Nat) : Int) else -1) := by
  unfold laws_szAnswer.f
  unfold wt43
  have e0 : wrap64 (left - ((x.f0.size : Nat) : Int)) = left - ((x.f0.size : Nat) : Int) := wrap_id (by omega) (by omega)
  simp only [e0]
  by_cases c0 : ((x.f0.size : Nat) : Int) ≤ left
  case neg =>
    exact ev_pos (by omega) (ev_now (by first | rfl | rw [if_neg (by omega)]))
  refine ev_neg (by omega) ?_
  have e1 : wrap64 ((left - ((x.f0.size : Nat) : Int)) - ((x.f1.size : Nat) : Int)) = (left - ((x.f0.size : Nat) : Int)) - ((x.f1.size : Nat) : Int) := wrap_id (by omega) (by omega)
  simp only [e1]
  by_cases c1 : ((x.f1.size : Nat) : Int) ≤ (left - ((x.f0.size : Nat) : Int))
  case neg =>
    exact ev_pos (by omega) (ev_now (by first | rfl | rw [if_neg (by omega)]))
  refine ev_neg (by omega) ?_
  exact ev_now (by first | rfl | omega | (rw [if_pos (by omega)]; omega))
end Go.Proofs.Ytcjloeeomhiblaa.X
set_option linter.unusedVariables false
namespace Go.Proofs.Ytcjloeeomhiblaa.X
open Go.RowKit Go.Proofs.YtcjloeeomhiblaaW.PrintWords Go.Proofs.Ytcjloeeomhiblaa.E
theorem laws_szAnswerS_ev (x : List (S43)) (g0 : x.length ≤ 9223372036854775807) (g1 : ∀ y ∈ x, (y.f0.size ≤ 9223372036854775807) ∧ (y.f1.size ≤ 9223372036854775807)) (left : Int) (h0 : 0 ≤ left) (h1 : left ≤ 4611686018427387904) :
    Ev (fun k => laws_szAnswerS.f k x left) (if (((x.length + (x.map (fun y => (wt43 y))).sum) : Nat) : Int) ≤ left then left - (((x.length + (x.map (fun y => (wt43 y))).sum) : Nat) : Int) else -1) := by
  unfold laws_szAnswerS.f
  have e0 : wrap64 (left - ((x.length : Nat) : Int)) = left - ((x.length : Nat) : Int) := wrap_id (by omega) (by omega)
  simp only [e0]
  by_cases c : ((x.length : Nat) : Int) ≤ left
  case neg => exact ev_pos (by omega) (ev_now (by first | rfl | rw [if_neg (by omega)]))
  refine ev_neg (by omega) ?_
  have h := ev_sz (L := fun k l i => laws_szAnswerS.l0 k x l i) x (fun y => (wt43 y)) (fun l => Ev.step (fun k => rfl) (ev_neg (by omega) (ev_now rfl))) ?step (left - ((x.length : Nat) : Int)) (by omega) (by omega)
  case step =>
    intro l i y r l0 l1 hi hm hd hy hn
    refine Ev.step (fun k => rfl) (ev_pos (by omega) (ev_pos (by omega) ?_))
    simp only [rd_T43, Int.toNat_natCast, hd]
    have hg := g1 y hm
    obtain ⟨q0, q1⟩ := hg
    refine Ev.bind (laws_szAnswer_ev y (by assumption) (by assumption) l l0 l1) ?_
    by_cases c1 : (((wt43 y) : Nat) : Int) ≤ l
    case neg => rw [if_neg c1]; exact ev_pos (by omega) (ev_now (hn c1).symm)
    rw [if_pos c1]
    refine ev_neg (by omega) ?_
    rw [wrap_succ hi (by omega)]
    exact hy c1
  refine ev_cast h ?_
  by_cases c2 : (((x.map (fun y => (wt43 y))).sum : Nat) : Int) ≤ left - ((x.length : Nat) : Int)
  · rw [if_pos c2, if_pos (by omega)]; omega
  · rw [if_neg c2, if_neg (by omega)]
end Go.Proofs.Ytcjloeeomhiblaa.X
set_option linter.unusedVariables false
namespace Go.Proofs.Ytcjloeeomhiblaa.X
open Go.RowKit Go.Proofs.YtcjloeeomhiblaaW.PrintWords Go.Proofs.Ytcjloeeomhiblaa.E
def conv43 (x : S43) : S48 := ⟨x.f0, x.f1⟩
theorem laws_toAnswer_ev (x : S43) (hb : (wt43 x) ≤ 1048576) : Ev (fun k => laws_toAnswer.f (x.f0) (x.f1)) ((conv43 x).f0, (conv43 x).f1) := by
  unfold laws_toAnswer.f
  unfold wt43 at hb
  exact ev_now rfl
end Go.Proofs.Ytcjloeeomhiblaa.X
set_option linter.unusedVariables false
namespace Go.Proofs.Ytcjloeeomhiblaa.X
open Go.RowKit Go.Proofs.YtcjloeeomhiblaaW.PrintWords Go.Proofs.Ytcjloeeomhiblaa.E
theorem laws_toAnswerS_ev (x : List (S43)) (hb : (x.length + (x.map (fun y => (wt43 y))).sum) ≤ 1048576) : Ev (fun k => laws_toAnswerS.f k x) (x.map conv43) := by
  unfold laws_toAnswerS.f
  refine ev_pos (by omega) (ev_pos (by simp only [Int.toNat_natCast]; omega) ?_)
  simp only [Int.toNat_natCast]
  refine ev_fill (L := fun k o i => laws_toAnswerS.l0 k x o i) x conv43 _ (fun o => Ev.step (fun k => rfl) (ev_neg (by omega) (ev_now rfl))) ?_
  intro o i y r hi hx hd hl hk
  refine Ev.step (fun k => rfl) (ev_pos (by omega) (ev_pos (by omega) ?_))
  simp only [rd_T43, Int.toNat_natCast, hd]
  have hq := le_sum (f := fun y => (wt43 y)) (List.mem_of_getElem? hx)
  refine Ev.bind (laws_toAnswer_ev y (by omega)) ?_
  refine ev_pos (by omega) ?_
  rw [wrap_succ hi (by omega)]
  exact hk
end Go.Proofs.Ytcjloeeomhiblaa.X
set_option linter.unusedVariables false
namespace Go.Proofs.Ytcjloeeomhiblaa.X
open Go.RowKit Go.Proofs.YtcjloeeomhiblaaW.PrintWords Go.Proofs.Ytcjloeeomhiblaa.E
theorem laws_eqAnswer_ev (x : S48) : Ev (fun k => laws_eqAnswer.f (x.f0) (x.f1) (x.f0) (x.f1)) true := by
  unfold laws_eqAnswer.f
  repeat' (first | exact ev_now rfl | refine ev_pos rfl ?_ | refine ev_neg (by simp) ?_)
end Go.Proofs.Ytcjloeeomhiblaa.X
set_option linter.unusedVariables false
namespace Go.Proofs.Ytcjloeeomhiblaa.X
open Go.RowKit Go.Proofs.YtcjloeeomhiblaaW.PrintWords Go.Proofs.Ytcjloeeomhiblaa.E
theorem laws_eqAnswerS_ev (x : List (S48)) (hl0 : x.length ≤ 9223372036854775807) : Ev (fun k => laws_eqAnswerS.f k x x) true := by
  unfold laws_eqAnswerS.f
  refine ev_pos rfl ?_
  refine ev_same (L := fun k i => laws_eqAnswerS.l0 k x x i) x.length (Ev.step (fun k => rfl) (ev_neg (by omega) (ev_now rfl))) ?_
  intro i hi hk
  refine Ev.step (fun k => rfl) (ev_pos (by omega) (ev_pos (by omega) (ev_pos (by omega) ?_)))
  refine Ev.bind (laws_eqAnswer_ev _) ?_
  refine ev_pos rfl ?_
  rw [wrap_succ hi (by omega)]
  exact hk
end Go.Proofs.Ytcjloeeomhiblaa.X
set_option linter.unusedVariables false
set_option linter.unusedSimpArgs false
namespace Go.Proofs.Ytcjloeeomhiblaa.Pure
open Go.RowKit Go.Proofs.Ytcjloeeomhiblaa.X Go.Proofs.YtcjloeeomhiblaaW.PrintWords Go.Proofs.Ytcjloeeomhiblaa.E
theorem hidAt_eq (form : List X.Field) (a : X.Answer) : hidAt form a = fidx form a.f0 := by
  have h := fieldOf_eq form a.f0
  unfold impl_fieldOf.f at h
  exact Option.some.inj h
def keptA (form : List X.Field) (V : List Bool) (ans : List X.Answer) (i : Nat) : List X.Answer := (ans.take i).filter (fun a => rdOf false V (fidx form a.f0))
theorem clr_both (form : List X.Field) (ans : List X.Answer) (hl : form.length ≤ 9223372036854775807) (hf : ∀ f ∈ form, fine f) (hla : ans.length ≤ 9223372036854775807) (ha : ∀ a ∈ ans, fineA a) :
    ∃ (L : List X.Answer) (b : Bool), L.length ≤ 10 ∧ Ev (fun k => spec_ClearHidden.f k form ans) (L, b) ∧ Ev (fun k => impl_ClearHidden.f k form ans) (L, b) := by
  have h1 := specAnswers_ev form ans hl hf hla ha
  have h2 := implAnswers_ev form ans hl hf hla ha
  cases hv : ansB form ans
  · rw [hv] at h1 h2
    exact ⟨[], false, by simp, ev_some (Ev.bind h1 (ev_neg (by simp) (ev_now rfl))), Ev.bind h2 (ev_neg (by simp) (ev_now rfl))⟩
  rw [hv] at h1 h2
  have V := valid_of hv
  have hlen := V.len
  have hsh : ans.length ≤ form.length := by unfold ansB at hv; rw [Bool.and_eq_true] at hv; exact ans_short hv.2
  have hvl := visL_length form ans form.length
  have hin : ∀ i, i < ans.length → ∃ k : Nat, fidx form (ans.getD i zA).f0 = (k : Int) ∧ k < form.length := by
    intro i hi
    obtain ⟨k, h3, h4, _⟩ := pos_in V hi
    exact ⟨k, h3, h4⟩
  have hkl : ∀ i, (keptA form (visL form ans form.length) ans i).length ≤ i := by
    intro i
    refine Nat.le_trans (List.length_filter_le _ _) ?_
    rw [List.length_take]
    omega
  have g1 := ev_all (L := fun k (s : List X.Answer) i => spec_ClearHidden.l0 k form ans s (visL form ans form.length) i) ans.length (keptA form (visL form ans form.length) ans) (fun _ => true) ([], false) (keptA form (visL form ans form.length) ans ans.length, true) (fun _ => Ev.step (fun k => rfl) (ev_neg (by omega) (ev_now rfl))) ?h1 (fun i hi _ hc => nomatch hc)
  case h1 =>
    intro i hi _ _ y hy
    obtain ⟨k, h3, h4⟩ := hin i hi
    have hk := hkl i
    have hs : keptA form (visL form ans form.length) ans (i + 1) = keptA form (visL form ans form.length) ans i ++ (if rdOf false (visL form ans form.length) (k : Int) = true then [ans.getD i zA] else []) := by
      unfold keptA
      rw [List.take_succ_eq_append_getElem hi, List.filter_append]
      congr 1
      have : ans[i] = ans.getD i zA := (getD_in hi zA).symm
      rw [this, ← h3]
      by_cases c : rdOf false (visL form ans form.length) (fidx form (ans.getD i zA).f0) = true
      · rw [if_pos c]
        exact List.filter_cons_of_pos (p := fun a : X.Answer => rdOf false (visL form ans form.length) (fidx form a.f0)) c
      · rw [if_neg c]
        exact List.filter_cons_of_neg (p := fun a : X.Answer => rdOf false (visL form ans form.length) (fidx form a.f0)) c
    have hfd : Ev (fun n => spec_l23Find.f n form (rd_T48 ans (i : Int)).f0) (k : Int) := by
      have h := l23Find_ev form (ans.getD i zA).f0 hl
      rw [h3] at h
      exact h
    refine Ev.step (fun k => rfl) (ev_pos (by omega) (ev_pos (by omega) (Ev.bind hfd ?_)))
    simp only [rd_T48, Int.toNat_natCast]
    refine ev_pos (by omega) (ev_pos (by rw [hvl]; omega) ?_)
    rw [wrap_succ hi (by omega)]
    by_cases c : rdOf false (visL form ans form.length) (k : Int) = true
    · rw [if_pos c] at hs
      rw [hs] at hy
      exact ev_pos c (ev_pos (by omega) hy)
    · rw [if_neg c, List.append_nil] at hs
      rw [hs] at hy
      exact ev_neg c hy
  refine ⟨keptA form (visL form ans form.length) ans ans.length, true, by have := hkl ans.length; omega, ev_some (Ev.bind h1 (ev_pos rfl (Ev.bind (specVis_ev form ans V hla) ?_))), Ev.bind h2 (ev_pos rfl (Ev.bind (implVis_ev form ans V) (ev_pos ?_ (ev_now ?_))))⟩
  · rw [if_pos (by rw [all_range]; intro i hi; rfl)] at g1
    exact g1
  · unfold hidOk
    rw [Bool.and_eq_true, decide_eq_true_eq, List.all_eq_true]
    refine ⟨by omega, fun a ha' => ?_⟩
    obtain ⟨i, hi, e⟩ := List.mem_iff_getElem.1 ha'
    obtain ⟨k, h3, h4⟩ := hin i hi
    rw [getD_in hi, e] at h3
    rw [hidAt_eq, h3, Bool.and_eq_true, decide_eq_true_eq, decide_eq_true_eq]
    omega
  · unfold keptA
    rw [List.take_length]
    congr 1
theorem wF_sum (l : List S40) : ((l.map conv40).map wF).sum ≤ 6 * l.length + (l.map (fun y => wt40 y)).sum := by
  induction l with
  | nil => exact Nat.le_refl _
  | cons y l ih =>
    rw [List.map_cons, List.map_cons, List.sum_cons, List.map_cons, List.sum_cons, List.length_cons]
    have h1 : wF (conv40 y) = 6 + y.f4.length := rfl
    have h2 : y.f4.length ≤ wt40 y := by unfold wt40; omega
    omega
theorem FnExactClearHidden : PureFnExactClearHidden := by
  intro form ans hf ha
  have hsz : ∀ y ∈ form, (y.f0.size ≤ 9223372036854775807) ∧ (y.f4.length ≤ 9223372036854775807) ∧ (∀ z ∈ y.f4, (z.size ≤ 9223372036854775807)) ∧ (y.f6.size ≤ 9223372036854775807) := by
    intro y hy
    have g := hf.2 y hy
    exact ⟨g.1, g.2.2.2.2.1.1, g.2.2.2.2.1.2, g.2.2.2.2.2.2⟩
  have hsa : ∀ y ∈ ans, (y.f0.size ≤ 9223372036854775807) ∧ (y.f1.size ≤ 9223372036854775807) := fun y hy => ha.2 y hy
  unfold laws_FnExactClearHidden.f
  apply ev_get
  refine Ev.bind (laws_szFieldS_ev form hf.1 hsz 1048576 (by omega) (by omega)) ?_
  by_cases c : (((form.length + (form.map (fun y => wt40 y)).sum : Nat)) : Int) ≤ 1048576
  case neg => rw [if_neg c]; exact ev_pos (by omega) (ev_now rfl)
  rw [if_pos c]
  refine ev_neg (by omega) (Ev.bind (laws_szAnswerS_ev ans ha.1 hsa _ (by omega) (by omega)) ?_)
  by_cases c2 : (((ans.length + (ans.map (fun y => wt43 y)).sum : Nat)) : Int) ≤ 1048576 - (((form.length + (form.map (fun y => wt40 y)).sum : Nat)) : Int)
  case neg => rw [if_neg c2]; exact ev_pos (by omega) (ev_now rfl)
  rw [if_pos c2]
  refine ev_neg (by omega) ?_
  have hto := laws_toFieldS_ev form (by omega)
  have hta := laws_toAnswerS_ev ans (by omega)
  have hl : (form.map conv40).length ≤ 9223372036854775807 := by rw [List.length_map]; exact hf.1
  have hla : (ans.map conv43).length ≤ 9223372036854775807 := by rw [List.length_map]; exact ha.1
  have hll : (ans.map conv43).length = ans.length := List.length_map ..
  have hfine : ∀ f ∈ form.map conv40, fine f := by
    intro f hf'
    obtain ⟨y, hy, rfl⟩ := List.mem_map.1 hf'
    have g := hsz y hy
    exact ⟨g.1, g.2.1, g.2.2.1, g.2.2.2⟩
  have hfineA : ∀ f ∈ ans.map conv43, fineA f := by
    intro f hf'
    obtain ⟨y, hy, rfl⟩ := List.mem_map.1 hf'
    exact hsa y hy
  have hws := wF_sum form
  obtain ⟨L, b, hL, g1, g2⟩ := clr_both (form.map conv40) (ans.map conv43) hl hfine hla hfineA
  have heF := laws_eqFieldS_ev _ hl (fun f hf' => (hfine f hf').2.1)
  have heA := laws_eqAnswerS_ev _ hla
  have heL := laws_eqAnswerS_ev L (by omega)
  have hm1 := markField (form.map conv40) 1 (by omega) (by omega)
  have hm2 := markAns (ans.map conv43) (1 + ((((form.map conv40).map wF).sum : Nat) : Int)) (by omega) (by omega)
  have hm3 := markAns L 1 (by omega) (by omega)
  have hh := heldAns L 1 (by omega) (by omega)
  refine Ev.bind hto (Ev.bind hta (Ev.bind g1 (Ev.bind hto (Ev.bind hta (Ev.bind g2 (Ev.bind heL (ev_pos rfl (ev_pos rfl ?_))))))))
  refine Ev.bind hto (Ev.bind heF (ev_pos rfl (Ev.bind hta (Ev.bind heA (ev_pos rfl (Ev.bind hm1 (Ev.bind hm2 (ev_pos (by omega) (Ev.bind heL (ev_pos rfl (ev_pos rfl ?_)))))))))))
  refine Ev.bind hm3 (Ev.bind hh (ev_pos (by omega) (ev_pos rfl (Ev.bind hto (Ev.bind hta (Ev.bind g2 (Ev.bind heL (ev_pos rfl (ev_pos rfl ?_)))))))))
  exact Ev.bind hh (ev_pos (by omega) (ev_pos rfl (ev_now rfl)))
end Go.Proofs.Ytcjloeeomhiblaa.Pure
namespace Go.Proofs.Ytcjloeeomhiblaa.fnExactClearHidden
open Go.ChangeShapes Go.WideShapes Go.ChangeAt Go.RowKit Go.Joins Go.Proofs.YtcjloeeomhiblaaW.PrintWords Go.Proofs.Ytcjloeeomhiblaa.Open Go.Proofs.Ytcjloeeomhiblaa.X
open Go.ChangeMaps (open_string shut_string)
set_option linter.unusedVariables false
theorem own : ownKnob Try.prog.godebug = none := by kernel_rfl
theorem laidOut : laidOutB Try.prog = true := by kernel_rfl
set_option maxRecDepth 100000 in
theorem lifted (os : Os) (started : os.Started) (H : Type) (enc : TypeId × Value → H) :
    ReturnsInHanded {} Try.checked os 3 .any (Rows.fnExactClearHiddenSpec.pre6 enc Try.prog Try.f3 Rows.fnExactClearHiddenRow.domain false) (Rows.fnExactClearHiddenSpec.post enc Try.prog Try.f3 false true false false) := by
  refine returnsInHanded_of_change_sized (C := Try.checked) own started (by kernel_rfl) Try.func3
    (ChangeSpec.witness6 (enc := enc) (C := Try.checked) false ⟨#[], #[.slice none 0 0, .slice none 0 0], []⟩ 8 (by kernel_rfl) (by kernel_rfl) (by kernel_rfl) (by kernel_rfl)) ?_
  intro W base args ds gs before hval0 hW hcnd hsz0 _
  have hval : ∀ (j : Nat) t v, Try.f3.params[j]? = some t → args[j]? = some v → Value.okWide Try.prog W .any base t v := hval0
  have hW' := hW
  obtain ⟨p, q, hA0, hV, rfl, hfz, hnd⟩ := hW
  have hA : DataW.TrodAll enc Try.prog W 0 (fun _ => true) true Try.f3.params.toList args.toList ds p := hA0
  rw [Try.params3] at hA hval
  obtain ⟨v0, vs0, d0, ds0, p0, q0, hargs, rfl, rfl, h0, r0⟩ := trodAll_cons hA
  obtain ⟨v1, vs1, d1, ds1, p1, q1, rfl, rfl, rfl, h1, r1⟩ := trodAll_cons r0
  obtain ⟨rfl, rfl, rfl⟩ := trodAll_nil r1
  obtain rfl : args = #[v0, v1] := by cases args; simp_all
  obtain ⟨rfl, rfl⟩ := trodVars_none hV
  have kk0 := h0
  have lt0 : ∀ x ∈ p0, x.block < W.heap.size := by obtain ⟨m, hm⟩ := kk0; exact DataW.trod_lt m _ _ _ hm
  obtain ⟨A0, c0, a0, rfl, hc0, hr0, g0⟩ := arg_slice op22 (okWide_slice Try.underlying22 (hval 0 22 v0 rfl rfl)) h0
  have kk1 := h1
  have lt1 : ∀ x ∈ p1, x.block < W.heap.size := by obtain ⟨m, hm⟩ := kk1; exact DataW.trod_lt m _ _ _ hm
  obtain ⟨A1, c1, a1, rfl, hc1, hr1, g1⟩ := arg_slice op23 (okWide_slice Try.underlying23 (hval 1 23 v1 rfl rfl)) h1
  clear hA0 hval0 hsz0
  obtain ⟨k, hk⟩ := Pure.FnExactClearHidden a0 a1 g0 g1
  refine (X.laws_FnExactClearHidden.calls k _ _ a0 _ _ a1 true W hr0 hc0 hr1 hc1 hk).mono ?_
  rintro e W' ⟨he, bel0⟩
  have bel : Below W.heap.size W W' := by first | exact bel0 | exact bel0.below
  subst he
  exact ⟨_, rfl, _, _, _, [], _, [], hW', trodAll_mk1 (shut_bool Try.underlying4 _), (trodAll_cons_mk (Below.trod laidOut (by kernel_rfl) (of_decide_eq_true (by kernel_rfl)) kk0 bel lt0) (trodAll_cons_mk (Below.trod laidOut (by kernel_rfl) (of_decide_eq_true (by kernel_rfl)) kk1 bel lt1) trodAll_mk0)), rfl, bel.frame _, fun h => by cases h⟩
theorem over : Rows.fnExactClearHiddenRow.holds Try.pinned (OpenSpec.ofChange Rows.fnExactClearHiddenSpec) :=
  OpenClaim.holds_of_wide 3 Try.f3 rfl rfl rfl rfl rfl rfl rfl ⟨rfl, rfl, rfl, rfl, rfl⟩ rfl rfl rfl rfl rfl (by kernel_rfl) Try.func3 (by kernel_rfl)
    (of_decide_eq_true (by kernel_rfl)) (by unfold Func.isWrapper; first | (rw [if_pos (by decide +kernel)]; kernel_rfl) | (rw [if_neg (by decide +kernel)]; exact ⟨rfl, rfl⟩))
    (fun os started H enc _ => lifted os started H enc)
theorem proved : Rows.FnExactClearHiddenSaid := over
#print axioms proved
end Go.Proofs.Ytcjloeeomhiblaa.fnExactClearHidden
namespace Go.Proofs.Ytcjloeeomhiblaa
/-- The row, under a short name, for the claim. -/
theorem fnExactClearHidden_holds : Rows.FnExactClearHiddenSaid := fnExactClearHidden.proved
end Go.Proofs.Ytcjloeeomhiblaa
