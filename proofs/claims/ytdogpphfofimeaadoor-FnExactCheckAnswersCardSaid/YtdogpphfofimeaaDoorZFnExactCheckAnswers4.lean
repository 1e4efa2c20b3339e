/- For all forms and answers the law FnExactCheckAnswers answers true. No condition beyond what a reading tells.
This file (part 4 of 5) holds what the proof needs: plain functions with rounds and contracts written by programs of this work over the translation, and the lemmas. -/
import Derived.Test.YtdogpphfofimeaaDoorZFnExactCheckAnswers2
import Derived.Test.YtdogpphfofimeaaDoorZFnExactCheckAnswers3
import Derived.Shelf.Strings.Builder1
import Derived.Shelf.Strings.Builder2
import Derived.Shelf.Strings.OnBuilder
import Derived.Shelf.Strings.BuilderF
import Derived.Shelf.Utf8.RuneCount
import Derived.Shelf.Strconv.Atoi
import Derived.Shelf.Strconv.Itoa0
import Derived.Shelf.Strconv.Itoa1
import Derived.Shelf.LaysM
import Derived.Shelf.Strconv.Itoa2
import Derived.Shelf.Strconv.Itoa3
import Derived.Shelf.Strconv.AtoiErrFast
import Derived.Shelf.Strconv.ParseIntEmpty
import Derived.Shelf.Strconv.AtoiFail
import Derived.Shelf.Strconv.Clone
import Derived.Shelf.Strconv.SyntaxError
import Derived.Shelf.LaysC
import Derived.Shelf.Strconv.ToError
import Derived.Shelf.Strconv.AtoiErr
import Derived.Shelf.Strconv.Lower
import Derived.Shelf.Strconv.ParseUint10
import Derived.Shelf.Strconv.ParseUint10Empty
import Derived.Shelf.Strconv.ParseUint10Any
import Derived.Shelf.Strconv.ParseInt10
import Derived.Shelf.Strconv.AtoiLong
import Derived.Shelf.Strconv.AtoiInnerAll
import Derived.Shelf.Strconv.RangeError
import Derived.Shelf.Strconv.ToErrorRange
import Derived.Shelf.Strconv.AtoiAll
import Derived.Shelf.Strconv.ErrVarAll
import Derived.Shelf.Strings.Search1
import Derived.Shelf.Strings.Search2
import Derived.Shelf.Strings.Search3
import Derived.Shelf.Strings.Count
import Derived.Shelf.Strings.Shaped
import Derived.Shelf.Strings.Split
import Derived.Shelf.Strings.SplitShaped
import Derived.Shelf.Unicode.Decode
import Derived.Shelf.Strings.RuneCount
import Derived.Shelf.Strings.Explode
import Derived.Shelf.Unicode.DecodeSlow
import Derived.Shelf.Unicode.DecodeAny
import Derived.Shelf.Slices.Turned
import Derived.Test.YtdogpphfofimeaaDoorProg
import Derived.Lib.AppendIntMem
import Derived.Lib.AtoiErrMem
import Derived.Lib.AtoiAllCases
import Derived.Lib.Strings
import Derived.Lib.SmallJoins
import Derived.Test.YtdogpphfofimeaaDoorZFnExactCheckAnswers1
import Derived.ChangeArms
import Derived.DataReads
import Derived.Deep.Slices
import Derived.ChangeOld
import Derived.OpenShut
namespace Go.Proofs.YtdogpphfofimeaaDoor.X
open Go.RowKit Go.Proofs.YtdogpphfofimeaaDoorW.PrintWords Go.Proofs.YtdogpphfofimeaaDoorW.PrintLast Go.Proofs.YtdogpphfofimeaaDoorW.PrintMore
attribute [local go_sem] max2_int min2_int max_two min_two max_three min_three max_four min_four   -- for this text's walks alone
set_option linter.unusedVariables false
set_option linter.unusedSimpArgs false
attribute [-simp] ByteArray.size_append ByteArray.size_extract
attribute [-go_sem] ByteArray.size_append'

/-! ### impl_visible: function 64 -/
def impl_visible.l0 : Nat → List (S69) → List (S58) → List Bool → List (S69) → Int → Int → Option (List Bool)
 | 0, _, _, _, _, _, _ => none
 | k + 1, x0, x1, x5, x13, x14, x15 => if x15 < x14 then (if 0 ≤ x15 then (if x15 < (x13.length : Int) then (if ((rd_T69 x13 x15).f6).toList = ([] : List UInt8) then (if x15 < (x5.length : Int) then (impl_visible.l0 k x0 x1 (x5.set (x15 : Int).toNat true) x13 x14 (wrap64 (x15 + 1))) else (none)) else ((impl_answerOf.f x1 ((rd_T69 x13 x15).f6)).bind fun bt107 => ((impl_fieldOf.f x0 ((rd_T69 x13 x15).f6)).bind fun t109 => (if 0 ≤ t109 then (if t109 < (x5.length : Int) then (if rdOf false x5 t109 = true then (if x15 < (x5.length : Int) then (impl_visible.l0 k x0 x1 (x5.set (x15 : Int).toNat (bt107.1.toList == ([121, 101, 115] : List UInt8))) x13 x14 (wrap64 (x15 + 1))) else (none)) else (if x15 < (x5.length : Int) then (impl_visible.l0 k x0 x1 (x5.set (x15 : Int).toNat false) x13 x14 (wrap64 (x15 + 1))) else (none))) else (none)) else (none))))) else (none)) else (none)) else (some x5)
def impl_visible.f (k : Nat) (l0 : List (S69)) (l1 : List (S58)) : Option (List Bool) := if 0 ≤ (l0.length : Int) then (if ((l0.length : Int) : Int).toNat ≤ 281474976710656 then (impl_visible.l0 k l0 l1 (List.replicate ((l0.length : Int) : Int).toNat false) l0 (l0.length : Int) 0) else (none)) else (none)
set_option maxHeartbeats 8000000 in
set_option maxRecDepth 100000 in
theorem impl_visible.calls (k : Nat) (A0 : Option Addr) (c0 : Nat) (l0 : List (S69)) (A1 : Option Addr) (c1 : Nat) (l1 : List (S58)) (r : List Bool) (w : World) (hr0 : Kd.C k69 w A0 l0.length l0) (hc0 : l0.length ≤ c0) (hr1 : Kd.C k58 w A1 l1.length l1) (hc1 : l1.length ≤ c1) (h : impl_visible.f k l0 l1 = some r) :
  Calls Tryd.prog 64 #[.slice A0 l0.length c0, .slice A1 l1.length c1] w fun e w' => ∃ v0_ : Value, e = .returned (v0_) ∧ Kd.R Kd.bool 4 w' w.heap.size (fun _ => True) v0_ r ∧ Below w.heap.size w w' := by
 (have hu69 := Tryd.underlying69); (have HR0 := Aside0.mk hr0); (have HC0 := Aside0.mk hc0); clear hr0 hc0; (have HR1 := Aside0.mk hr1); (have HC1 := Aside0.mk hc1); clear hr1 hc1; (have HB := Aside0.mk (Below.refl w.heap.size w)); (unfold impl_visible.f at h); (have H := h); clear h; (by_cases c3 : 0 ≤ (l0.length : Int))
 ·rw [if_pos c3] at H
  (have c3b0 := eq_true c3); (have c3b1 := decide_eq_true c3); clear c3; (by_cases c4 : ((l0.length : Int) : Int).toNat ≤ 281474976710656)
  ·rw [if_pos c4] at H
   (have c4b0 := eq_true c4); (have c4b1 := decide_eq_true c4); clear c4; (obtain ⟨y101, hy101⟩ : ∃ y_ : List Bool, y_ = (List.replicate ((l0.length : Int) : Int).toNat false) := ⟨_, rfl⟩); (replace H : (impl_visible.l0 k l0 l1 y101 l0 (l0.length : Int) 0) = some r := by first | (rw [hy101]; with_reducible exact H) | (have H2_ := (Option.bind_some _ _).symm.trans H; rw [hy101]; with_reducible exact H2_) | (have H2_ := (Option.bind_some _ _).symm.trans H; with_reducible exact H2_) | with_reducible exact H | (rw [hy101]; exact H) | exact H); (have Ny101 := Aside0.mk hy101); clear hy101; (have H' := Aside0.mk H); clear H; (go_enter Tryd.func64, Tryd.ntmps64); (go_wp2_with (first | ((with_reducible refine gate_dst (N := 12) rfl ?_); refine Kd.R_make Kd.bool _ 4 rfl (N := 12) rfl 90 _ _ rfl (l0.length : Int) rfl rfl Tryd.underlying90 (.bool false) 1 info4 rfl (by decide) (by omega) false (ok := fun _ => True) (okp := fun _ => True) rfl (fun _ hk => hk) trivial odt (Nat.le_trans (Nat.mul_le_mul_right _ (odt : (l0.length : Int).toNat ≤ 281474976710656)) (by omega)) (Below.refl _ _) (Nat.le_refl _) ?_; intro v102 w5 ho6 hb hg_ hnew_; clear hg_ hnew_; (first | rw [← Ny101.out] at ho6 | (simp only [Int.reduceToNat] at ho6; rw [← Ny101.out] at ho6)); have hB_ := zI hb HB; have n0_ := Aside0.mk (Kd.R_lower ho6 (below_size hB_)); have n1_ := Aside0.mk (below_step hB_ hb); clear HB; have HO103 := n0_; have HB := n1_; clear n0_ n1_ hB_ hb ho6))); (go_loopg [15] k (fun kq v15 w' => ∃ (x5_1 : List Bool) (x15_1 : Int), v15 = .int .i64 x15_1 ∧ Aside0 (impl_visible.l0 kq l0 l1 x5_1 l0 (l0.length : Int) x15_1 = some r) ∧ Aside0 (kq ≤ k) ∧ Aside0 (Kd.R Kd.bool 4 w' w.heap.size (fun _ => True) v102 x5_1) ∧ Aside0 (Below w.heap.size w w')))
   case atStart => exact ⟨(y101), (0), (by first | rfl | (simp; done) | (simp [*]; done)), H', ⟨Nat.le_refl _⟩, ⟨rI HO103⟩, ⟨eI HB⟩⟩
   case round =>
    (clear H'); (try clear c1); (try clear p2); (try clear c3); (try clear c3b0); (try clear c3b1); (try clear c4); (try clear c4b0); (try clear c4b1); (try clear c6); (obtain ⟨x5_1, x15_1, rfl, HA, HK1, HO_5, HB⟩ := hrel)
    cases gk with
    | zero => exact absurd HA.out (by simp [impl_visible.l0])
    | succ k1 =>
     (have H := HA.out); clear HA; (simp only [impl_visible.l0] at H); (by_cases c7 : x15_1 < (l0.length : Int))
     ·rw [if_pos c7] at H
      (have c7b0 := decide_eq_true c7); clear c7; (by_cases c8 : 0 ≤ x15_1)
      ·rw [if_pos c8] at H
       (have c8b0 := decide_eq_true c8); clear c8; (by_cases c9 : x15_1 < (l0.length : Int))
       ·rw [if_pos c9] at H
        (have c9b0 := decide_eq_true c9); clear c9; (by_cases c10 : ((rd_T69 l0 x15_1).f6).toList = ([] : List UInt8))
        ·rw [if_pos c10] at H
         (have c10b0 : ((rd_T69 l0 x15_1).f6).toList.isEmpty = true := List.isEmpty_iff.mpr c10); (have c10b1 : (!((rd_T69 l0 x15_1).f6).toList.isEmpty) = false := by rw [List.isEmpty_iff.mpr c10]; rfl); (have c10b2 : (((rd_T69 l0 x15_1).f6).toList == ([] : List UInt8)) = true := beq_iff_eq.mpr c10); (have c10b3 : (((rd_T69 l0 x15_1).f6).toList != ([] : List UInt8)) = false := bne_eq_false_iff_eq.mpr c10); clear c10; (by_cases c11 : x15_1 < (x5_1.length : Int))
         ·rw [if_pos c11] at H
          (have c11b0 := decide_eq_true c11); clear c11; (obtain ⟨y106, hy106⟩ : ∃ y_ : List Bool, y_ = (x5_1.set (x15_1 : Int).toNat true) := ⟨_, rfl⟩); (replace H : (impl_visible.l0 k1 l0 l1 y106 l0 (l0.length : Int) (wrap64 (x15_1 + 1))) = some r := by first | (rw [hy106]; with_reducible exact H) | (have H2_ := (Option.bind_some _ _).symm.trans H; rw [hy106]; with_reducible exact H2_) | (have H2_ := (Option.bind_some _ _).symm.trans H; with_reducible exact H2_) | with_reducible exact H | (rw [hy106]; exact H) | exact H); (have Ny106 := Aside0.mk hy106); clear hy106; (have H' := Aside0.mk H); clear H; (have p104 : 0 ≤ (x15_1 : Int) := of_decide_eq_true (by first | (with_reducible assumption) | assumption)); (have q104 : x15_1 < (l0.length : Int) := of_decide_eq_true (by first | (with_reducible assumption) | assumption)); (obtain ⟨ad104, A104_4, c104_4, e104, hx104_0, hx104_1, hx104_2, hx104_3, hx104_4, hx104_5, hx104_6, hl104_4, hi104_4⟩ := at_T69 HR0.out x15_1 p104 q104); (cases e104); (replace hx104_0 := (HB.out.cell (bltc w _ hx104_0)).trans hx104_0); (replace hx104_1 := (HB.out.cell (bltc w _ hx104_1)).trans hx104_1); (replace hx104_2 := (HB.out.cell (bltc w _ hx104_2)).trans hx104_2); (replace hx104_3 := (HB.out.cell (bltc w _ hx104_3)).trans hx104_3); (replace hx104_4 := (HB.out.cell (bltc w _ hx104_4)).trans hx104_4); (replace hx104_5 := (HB.out.cell (bltc w _ hx104_5)).trans hx104_5); (replace hx104_6 := (HB.out.cell (bltc w _ hx104_6)).trans hx104_6); (have HR104_4 := Aside0.mk hi104_4); (have HC104_4 := Aside0.mk hl104_4); clear hi104_4 hl104_4; (replace p104 := eq_true p104); (replace q104 := eq_true q104)
          go_wp2_with (first | ((with_reducible refine gate_dst (N := 7) rfl ?_); refine box_event ?hg (N := 7) ?hd (cs := #[.string (⟨#[]⟩ : ByteArray), .int .i64 0, .int .i64 0, .int .i64 0, .slice none 0 0, .bool false, .string (⟨#[]⟩ : ByteArray)]) (t := 69) ?hr ?_; (case hd => rfl); (case hg => rfl); (case hr => first | (go_simp; done) | (go_simp; rfl)); intro gb105 hg w13 hbox hb; have n0_ := Aside0.mk (Kd.R_below (rI HO_5) hb); have hB_ := bz (by repeat (first | (with_reducible first | exact HB.out | apply bA | apply bN | apply bD) | exact HB.out)) hb; have n1_ := Aside0.mk (below_step hB_ hb); have n2_ := Aside0.mk (hbox); have n3_ := Aside0.mk ((by rw [hg]; exact (below_size hB_) : w.heap.size ≤ gb105)); have n4_ := n3_; clear HO_5 HB; have HO_5 := n0_; have HB := n1_; have BK105 := n2_; have GW105 := n3_; have GE105 := n4_; clear n0_ n1_ n2_ n3_ n4_ hB_ hb hbox hg; have hcz14_0 := cz BK105.out 0; have hcz14_1 := cz BK105.out 1; have hcz14_2 := cz BK105.out 2; have hcz14_3 := cz BK105.out 3; have hcz14_4 := cz BK105.out 4; have hcz14_5 := cz BK105.out 5; have hcz14_6 := cz BK105.out 6; have hfz14_0 := blk_frozen BK105.out 0; have hfz14_1 := blk_frozen BK105.out 1; have hfz14_2 := blk_frozen BK105.out 2; have hfz14_3 := blk_frozen BK105.out 3; have hfz14_4 := blk_frozen BK105.out 4; have hfz14_5 := blk_frozen BK105.out 5; have hfz14_6 := blk_frozen BK105.out 6) | ((with_reducible refine gate_store (t := 69) (p := 7) rfl ?_); refine store_event (t := 69) (p := 7) (v := ?vo_w15) (w1 := (((((((w13.setCell ⟨gb105, 0, none⟩ (.string ((rd_T69 l0 x15_1).f0))).setCell ⟨gb105, 1, none⟩ (.int .i64 ((rd_T69 l0 x15_1).f1))).setCell ⟨gb105, 2, none⟩ (.int .i64 ((rd_T69 l0 x15_1).f2))).setCell ⟨gb105, 3, none⟩ (.int .i64 ((rd_T69 l0 x15_1).f3))).setCell ⟨gb105, 4, none⟩ (.slice A104_4 ((rd_T69 l0 x15_1).f4).length c104_4)).setCell ⟨gb105, 5, none⟩ (.bool ((rd_T69 l0 x15_1).f5))).setCell ⟨gb105, 6, none⟩ (.string ((rd_T69 l0 x15_1).f6)))) ?hg ?ho ?hn ?hr ?_; (case ho => rfl); (case hg => rfl); (case hn => rfl); (case hr => first | (go_simp; done) | (go_simp; rfl)); intro w15 hw; have n0_ : Aside0 (Kd.R Kd.bool 4 w15 w.heap.size (fun _ => True) v102 x5_1) := ⟨(by rw [hw]; exact (by (with_reducible repeat (first | apply rA | apply rN | apply rD)); exact Kd.R_mono (Kd.R_far (p := ⟨gb105, 6, none⟩) (Kd.R_far (p := ⟨gb105, 5, none⟩) (Kd.R_far (p := ⟨gb105, 4, none⟩) (Kd.R_far (p := ⟨gb105, 3, none⟩) (Kd.R_far (p := ⟨gb105, 2, none⟩) (Kd.R_far (p := ⟨gb105, 1, none⟩) (Kd.R_far (p := ⟨gb105, 0, none⟩) (Kd.R_types HO_5.out BK105.out (by decide)) (fun _ hk => hk.2) (.string ((rd_T69 l0 x15_1).f0))) (fun _ hk => hk.2) (.int .i64 ((rd_T69 l0 x15_1).f1))) (fun _ hk => hk.2) (.int .i64 ((rd_T69 l0 x15_1).f2))) (fun _ hk => hk.2) (.int .i64 ((rd_T69 l0 x15_1).f3))) (fun _ hk => hk.2) (.slice A104_4 ((rd_T69 l0 x15_1).f4).length c104_4)) (fun _ hk => hk.2) (.bool ((rd_T69 l0 x15_1).f5))) (fun _ hk => hk.2) (.string ((rd_T69 l0 x15_1).f6))) (fun _ hk => trivial)))⟩; have n1_ : Aside0 (w15.heap[gb105]? = some (.cells #[.string ((rd_T69 l0 x15_1).f0), .int .i64 ((rd_T69 l0 x15_1).f1), .int .i64 ((rd_T69 l0 x15_1).f2), .int .i64 ((rd_T69 l0 x15_1).f3), .slice A104_4 ((rd_T69 l0 x15_1).f4).length c104_4, .bool ((rd_T69 l0 x15_1).f5), .string ((rd_T69 l0 x15_1).f6)] 69 (0, 0))) := ⟨(by rw [hw]; exact (by (with_reducible repeat (first | refine kN ?_ _ | refine kD ?_ | refine kA ?_ _)); refine blk_put (cs := #[.string ((rd_T69 l0 x15_1).f0), .int .i64 ((rd_T69 l0 x15_1).f1), .int .i64 ((rd_T69 l0 x15_1).f2), .int .i64 ((rd_T69 l0 x15_1).f3), .slice A104_4 ((rd_T69 l0 x15_1).f4).length c104_4, .bool ((rd_T69 l0 x15_1).f5), .string (⟨#[]⟩ : ByteArray)]) ?_ 6 _ rfl; (with_reducible repeat (first | refine kN ?_ _ | refine kD ?_ | refine kA ?_ _)); refine blk_put (cs := #[.string ((rd_T69 l0 x15_1).f0), .int .i64 ((rd_T69 l0 x15_1).f1), .int .i64 ((rd_T69 l0 x15_1).f2), .int .i64 ((rd_T69 l0 x15_1).f3), .slice A104_4 ((rd_T69 l0 x15_1).f4).length c104_4, .bool false, .string (⟨#[]⟩ : ByteArray)]) ?_ 5 _ rfl; (with_reducible repeat (first | refine kN ?_ _ | refine kD ?_ | refine kA ?_ _)); refine blk_put (cs := #[.string ((rd_T69 l0 x15_1).f0), .int .i64 ((rd_T69 l0 x15_1).f1), .int .i64 ((rd_T69 l0 x15_1).f2), .int .i64 ((rd_T69 l0 x15_1).f3), .slice none 0 0, .bool false, .string (⟨#[]⟩ : ByteArray)]) ?_ 4 _ rfl; (with_reducible repeat (first | refine kN ?_ _ | refine kD ?_ | refine kA ?_ _)); refine blk_put (cs := #[.string ((rd_T69 l0 x15_1).f0), .int .i64 ((rd_T69 l0 x15_1).f1), .int .i64 ((rd_T69 l0 x15_1).f2), .int .i64 0, .slice none 0 0, .bool false, .string (⟨#[]⟩ : ByteArray)]) ?_ 3 _ rfl; (with_reducible repeat (first | refine kN ?_ _ | refine kD ?_ | refine kA ?_ _)); refine blk_put (cs := #[.string ((rd_T69 l0 x15_1).f0), .int .i64 ((rd_T69 l0 x15_1).f1), .int .i64 0, .int .i64 0, .slice none 0 0, .bool false, .string (⟨#[]⟩ : ByteArray)]) ?_ 2 _ rfl; (with_reducible repeat (first | refine kN ?_ _ | refine kD ?_ | refine kA ?_ _)); refine blk_put (cs := #[.string ((rd_T69 l0 x15_1).f0), .int .i64 0, .int .i64 0, .int .i64 0, .slice none 0 0, .bool false, .string (⟨#[]⟩ : ByteArray)]) ?_ 1 _ rfl; (with_reducible repeat (first | refine kN ?_ _ | refine kD ?_ | refine kA ?_ _)); refine blk_put (cs := #[.string (⟨#[]⟩ : ByteArray), .int .i64 0, .int .i64 0, .int .i64 0, .slice none 0 0, .bool false, .string (⟨#[]⟩ : ByteArray)]) ?_ 0 _ rfl; (with_reducible repeat (first | refine kN ?_ _ | refine kD ?_ | refine kA ?_ _)); exact BK105.out))⟩; have n2_ : Aside0 (Below w.heap.size w w15) := ⟨(by rw [hw]; exact (by repeat (first | (with_reducible first | exact HB.out | apply bA | apply bN | apply bD | refine below_set ?_ GE105.out) | exact HB.out)))⟩; clear hw HO_5 BK105 HB; have HO_5 := n0_; have BK105 := n1_; have HB := n2_; clear n0_ n1_ n2_; have hcz16_0 := cz BK105.out 0; have hcz16_1 := cz BK105.out 1; have hcz16_2 := cz BK105.out 2; have hcz16_3 := cz BK105.out 3; have hcz16_4 := cz BK105.out 4; have hcz16_5 := cz BK105.out 5; have hcz16_6 := cz BK105.out 6; have hfz16_0 := blk_frozen BK105.out 0; have hfz16_1 := blk_frozen BK105.out 1; have hfz16_2 := blk_frozen BK105.out 2; have hfz16_3 := blk_frozen BK105.out 3; have hfz16_4 := blk_frozen BK105.out 4; have hfz16_5 := blk_frozen BK105.out 5; have hfz16_6 := blk_frozen BK105.out 6; have p12 : 0 ≤ (x15_1 : Int) := of_decide_eq_true (by first | (with_reducible assumption) | assumption); have q12 : (x15_1 : Int) < ((x5_1.length : Int) : Int) := of_decide_eq_true (by first | (with_reducible assumption) | assumption); obtain ⟨go12, co12, eo12, gb12, gl12, cl12, HG12⟩ := Kd.R_form HO_5.out (by omega); (first | cases eo12 | (injection eo12 with ea_ en_ ec_; (first | subst ea_ | (injection ea_ with ea_; subst ea_)); subst ec_; clear en_)); have GB12 := Aside0.mk gb12; have GG12 := Aside0.mk HG12; clear gb12 gl12 HG12; obtain ⟨hx12_0, hf12_0⟩ := Kd.R_celln false HO_5.out (x15_1 : Int) p12 q12; replace p12 := eq_true p12; replace q12 := eq_true q12; obtain ⟨hy17_, hz17_⟩ := Kd.R_celln false HO_5.out (x15_1 : Int) (of_decide_eq_true (by first | (with_reducible assumption) | assumption)) (of_decide_eq_true (by first | (with_reducible assumption) | assumption)); have HP17 := Kd.R_putg HO_5.out (x15_1 : Int) true) | ((with_reducible refine gate_store (t := 4) (p := 25) rfl ?_); refine store_event (t := 4) (p := 25) (v := ?vo_w18) (w1 := (w15.setCell ⟨go12, (x15_1 : Int).toNat, none⟩ (.bool true))) ?hg ?ho ?hn ?hr ?_; (case ho => rfl); (case hg => rfl); (case hn => rfl); (case hr => first | (go_simp; done) | (go_simp; rfl)); intro w18 hw; have hg : w15.grownBy w18 (some go12) := (by rw [hw]; exact HP17.2); have hp_ : Kd.R Kd.bool 4 w18 w.heap.size (fun _ => True) (.slice (some ⟨go12, 0, none⟩) x5_1.length co12) y106 := (by rw [hw, Ny106.out]; exact HP17.1); clear HP17; have n0_ := Aside0.mk (hp_); have n1_ := Aside0.mk (blk_grown (kI BK105) hg (Kd.R_ne HO_5.out BK105.out (by decide))); have n2_ := Aside0.mk ((by rw [hw]; exact below_set (HB.out) GB12.out : Below w.heap.size w w18)); clear HO_5 BK105 HB; have HO_5 := n0_; have BK105 := n1_; have HB := n2_; clear n0_ n1_ n2_ hg hw hp_))
          go_roundg k1
          case measure => have := HK1.out; omega
          case rel => exact ⟨(y106), (wrap64 (x15_1 + 1)), (by first | rfl | (simp; done) | (simp [*]; done)), H', ⟨by have := HK1.out; omega⟩, ⟨by (with_reducible repeat (first | apply rA | apply rN | apply rD)); exact HO_5.out⟩, ⟨by repeat (first | (with_reducible first | exact HB.out | apply bA | apply bN | apply bD | refine below_set ?_ GE105.out) | exact HB.out)⟩⟩
         ·rw [if_neg c11] at H
          exact absurd H (by simp)
        ·rw [if_neg c10] at H
         (have c10b0 : ((rd_T69 l0 x15_1).f6).toList.isEmpty = false := by rw [Bool.eq_false_iff]; exact fun h_ => c10 (List.isEmpty_iff.mp h_)); (have c10b1 : (!((rd_T69 l0 x15_1).f6).toList.isEmpty) = true := by rw [show ((rd_T69 l0 x15_1).f6).toList.isEmpty = false from by rw [Bool.eq_false_iff]; exact fun h_ => c10 (List.isEmpty_iff.mp h_)]; rfl); (have c10b2 : (((rd_T69 l0 x15_1).f6).toList == ([] : List UInt8)) = false := beq_eq_false_iff_ne.mpr c10); (have c10b3 : (((rd_T69 l0 x15_1).f6).toList != ([] : List UInt8)) = true := bne_iff_ne.mpr c10); (replace H := obS H); (obtain ⟨⟨t107, t108⟩, A19, H⟩ := H); (replace H : ((impl_fieldOf.f l0 ((rd_T69 l0 x15_1).f6)).bind fun t109 => (if 0 ≤ t109 then (if t109 < (x5_1.length : Int) then (if rdOf false x5_1 t109 = true then (if x15_1 < (x5_1.length : Int) then (impl_visible.l0 k1 l0 l1 (x5_1.set (x15_1 : Int).toNat (t107.toList == ([121, 101, 115] : List UInt8))) l0 (l0.length : Int) (wrap64 (x15_1 + 1))) else (none)) else (if x15_1 < (x5_1.length : Int) then (impl_visible.l0 k1 l0 l1 (x5_1.set (x15_1 : Int).toNat false) l0 (l0.length : Int) (wrap64 (x15_1 + 1))) else (none))) else (none)) else (none))) = some r := H); (replace H := obS H); (obtain ⟨t109, A20, H⟩ := H); (by_cases c21 : 0 ≤ t109)
         ·rw [if_pos c21] at H
          (have c21b0 := decide_eq_true c21); clear c21; (by_cases c22 : t109 < (x5_1.length : Int))
          ·rw [if_pos c22] at H
           (have c22b0 := decide_eq_true c22); clear c22; (obtain ⟨bq23, hbq23⟩ : ∃ b_ : Bool, b_ = (rdOf false x5_1 t109) := ⟨_, rfl⟩); (replace H : (if bq23 = true then (if x15_1 < (x5_1.length : Int) then (impl_visible.l0 k1 l0 l1 (x5_1.set (x15_1 : Int).toNat (t107.toList == ([121, 101, 115] : List UInt8))) l0 (l0.length : Int) (wrap64 (x15_1 + 1))) else (none)) else (if x15_1 < (x5_1.length : Int) then (impl_visible.l0 k1 l0 l1 (x5_1.set (x15_1 : Int).toNat false) l0 (l0.length : Int) (wrap64 (x15_1 + 1))) else (none))) = some r := by rw [← hbq23] at H; exact H); (have Nbq23 := Aside0.mk hbq23); clear hbq23; (by_cases c24 : bq23 = true)
           ·subst c24
            (rw [if_pos rfl] at H); (by_cases c25 : x15_1 < (x5_1.length : Int))
            ·rw [if_pos c25] at H
             (have c25b0 := decide_eq_true c25); clear c25; (obtain ⟨y111, hy111⟩ : ∃ y_ : List Bool, y_ = (x5_1.set (x15_1 : Int).toNat (t107.toList == ([121, 101, 115] : List UInt8))) := ⟨_, rfl⟩); (replace H : (impl_visible.l0 k1 l0 l1 y111 l0 (l0.length : Int) (wrap64 (x15_1 + 1))) = some r := by first | (rw [hy111]; with_reducible exact H) | (have H2_ := (Option.bind_some _ _).symm.trans H; rw [hy111]; with_reducible exact H2_) | (have H2_ := (Option.bind_some _ _).symm.trans H; with_reducible exact H2_) | with_reducible exact H | (rw [hy111]; exact H) | exact H); (have Ny111 := Aside0.mk hy111); clear hy111; (have H' := Aside0.mk H); clear H; (have p104 : 0 ≤ (x15_1 : Int) := of_decide_eq_true (by first | (with_reducible assumption) | assumption)); (have q104 : x15_1 < (l0.length : Int) := of_decide_eq_true (by first | (with_reducible assumption) | assumption)); (obtain ⟨ad104, A104_4, c104_4, e104, hx104_0, hx104_1, hx104_2, hx104_3, hx104_4, hx104_5, hx104_6, hl104_4, hi104_4⟩ := at_T69 HR0.out x15_1 p104 q104); ((try rw [← Nbq23.out] at hx104_5)); (cases e104); (replace hx104_0 := (HB.out.cell (bltc w _ hx104_0)).trans hx104_0); (replace hx104_1 := (HB.out.cell (bltc w _ hx104_1)).trans hx104_1); (replace hx104_2 := (HB.out.cell (bltc w _ hx104_2)).trans hx104_2); (replace hx104_3 := (HB.out.cell (bltc w _ hx104_3)).trans hx104_3); (replace hx104_4 := (HB.out.cell (bltc w _ hx104_4)).trans hx104_4); (replace hx104_5 := (HB.out.cell (bltc w _ hx104_5)).trans hx104_5); (replace hx104_6 := (HB.out.cell (bltc w _ hx104_6)).trans hx104_6); (have HR104_4 := Aside0.mk hi104_4); (have HC104_4 := Aside0.mk hl104_4); clear hi104_4 hl104_4; (replace p104 := eq_true p104); (replace q104 := eq_true q104)
             go_wp2_with (first | ((with_reducible refine gate_dst (N := 7) rfl ?_); refine box_event ?hg (N := 7) ?hd (cs := #[.string (⟨#[]⟩ : ByteArray), .int .i64 0, .int .i64 0, .int .i64 0, .slice none 0 0, .bool false, .string (⟨#[]⟩ : ByteArray)]) (t := 69) ?hr ?_; (case hd => rfl); (case hg => rfl); (case hr => first | (go_simp; done) | (go_simp; rfl)); intro gb105 hg w27 hbox hb; have n0_ := Aside0.mk (Kd.R_below (by (with_reducible repeat (first | apply rA | apply rN | apply rD)); exact HO_5.out) hb); have hB_ := bz (by repeat (first | (with_reducible first | exact HB.out | apply bA | apply bN | apply bD) | exact HB.out)) hb; have n1_ := Aside0.mk (below_step hB_ hb); have n2_ := Aside0.mk (hbox); have n3_ := Aside0.mk ((by rw [hg]; exact (below_size hB_) : w.heap.size ≤ gb105)); have n4_ := n3_; clear HO_5 HB; have HO_5 := n0_; have HB := n1_; have BK105 := n2_; have GW105 := n3_; have GE105 := n4_; clear n0_ n1_ n2_ n3_ n4_ hB_ hb hbox hg; have hcz28_0 := cz BK105.out 0; have hcz28_1 := cz BK105.out 1; have hcz28_2 := cz BK105.out 2; have hcz28_3 := cz BK105.out 3; have hcz28_4 := cz BK105.out 4; have hcz28_5 := cz BK105.out 5; have hcz28_6 := cz BK105.out 6; have hfz28_0 := blk_frozen BK105.out 0; have hfz28_1 := blk_frozen BK105.out 1; have hfz28_2 := blk_frozen BK105.out 2; have hfz28_3 := blk_frozen BK105.out 3; have hfz28_4 := blk_frozen BK105.out 4; have hfz28_5 := blk_frozen BK105.out 5; have hfz28_6 := blk_frozen BK105.out 6) | ((with_reducible refine gate_callee (f := 70) rfl ?_); refine gL (some 30) Tryd.func70 #[.slice A1 l1.length c1, .string ((rd_T69 l0 x15_1).f6)] ?_; (with_reducible refine (impl_answerOf.calls _ _ l1 ((rd_T69 l0 x15_1).f6) t107 t108 _ ?side1 ?side2 A19.out).mono ?_); (case side1 => exact Kd.C_below HR1.out (by repeat (first | (with_reducible first | exact HB.out | apply bA | apply bN | apply bD | refine below_set ?_ GE105.out) | exact HB.out))); (case side2 => exact HC1.out); rintro e w29 ⟨rfl, hb⟩; refine ⟨_, rfl, ?_⟩; have n0_ := Aside0.mk (Kd.R_below (by (with_reducible repeat (first | apply rA | apply rN | apply rD)); exact (Kd.R_mono (Kd.R_far (p := ⟨gb105, 6, none⟩) (Kd.R_far (p := ⟨gb105, 5, none⟩) (Kd.R_far (p := ⟨gb105, 4, none⟩) (Kd.R_far (p := ⟨gb105, 3, none⟩) (Kd.R_far (p := ⟨gb105, 2, none⟩) (Kd.R_far (p := ⟨gb105, 1, none⟩) (Kd.R_far (p := ⟨gb105, 0, none⟩) (Kd.R_types HO_5.out BK105.out (by decide)) (fun _ hk => hk.2) (.string ((rd_T69 l0 x15_1).f0))) (fun _ hk => hk.2) (.int .i64 ((rd_T69 l0 x15_1).f1))) (fun _ hk => hk.2) (.int .i64 ((rd_T69 l0 x15_1).f2))) (fun _ hk => hk.2) (.int .i64 ((rd_T69 l0 x15_1).f3))) (fun _ hk => hk.2) (.slice A104_4 ((rd_T69 l0 x15_1).f4).length c104_4)) (fun _ hk => hk.2) (.bool ((rd_T69 l0 x15_1).f5))) (fun _ hk => hk.2) (.string ((rd_T69 l0 x15_1).f6))) (fun _ h_ => h_.1))) hb); have n1_ := Aside0.mk (blk_below (g := gb105) (o := .cells #[.string ((rd_T69 l0 x15_1).f0), .int .i64 ((rd_T69 l0 x15_1).f1), .int .i64 ((rd_T69 l0 x15_1).f2), .int .i64 ((rd_T69 l0 x15_1).f3), .slice A104_4 ((rd_T69 l0 x15_1).f4).length c104_4, .bool ((rd_T69 l0 x15_1).f5), .string ((rd_T69 l0 x15_1).f6)] 69 (0, 0)) (by (with_reducible repeat (first | refine kN ?_ _ | refine kD ?_ | refine kA ?_ _)); refine blk_put (cs := #[.string ((rd_T69 l0 x15_1).f0), .int .i64 ((rd_T69 l0 x15_1).f1), .int .i64 ((rd_T69 l0 x15_1).f2), .int .i64 ((rd_T69 l0 x15_1).f3), .slice A104_4 ((rd_T69 l0 x15_1).f4).length c104_4, .bool ((rd_T69 l0 x15_1).f5), .string (⟨#[]⟩ : ByteArray)]) ?_ 6 _ rfl; (with_reducible repeat (first | refine kN ?_ _ | refine kD ?_ | refine kA ?_ _)); refine blk_put (cs := #[.string ((rd_T69 l0 x15_1).f0), .int .i64 ((rd_T69 l0 x15_1).f1), .int .i64 ((rd_T69 l0 x15_1).f2), .int .i64 ((rd_T69 l0 x15_1).f3), .slice A104_4 ((rd_T69 l0 x15_1).f4).length c104_4, .bool false, .string (⟨#[]⟩ : ByteArray)]) ?_ 5 _ rfl; (with_reducible repeat (first | refine kN ?_ _ | refine kD ?_ | refine kA ?_ _)); refine blk_put (cs := #[.string ((rd_T69 l0 x15_1).f0), .int .i64 ((rd_T69 l0 x15_1).f1), .int .i64 ((rd_T69 l0 x15_1).f2), .int .i64 ((rd_T69 l0 x15_1).f3), .slice none 0 0, .bool false, .string (⟨#[]⟩ : ByteArray)]) ?_ 4 _ rfl; (with_reducible repeat (first | refine kN ?_ _ | refine kD ?_ | refine kA ?_ _)); refine blk_put (cs := #[.string ((rd_T69 l0 x15_1).f0), .int .i64 ((rd_T69 l0 x15_1).f1), .int .i64 ((rd_T69 l0 x15_1).f2), .int .i64 0, .slice none 0 0, .bool false, .string (⟨#[]⟩ : ByteArray)]) ?_ 3 _ rfl; (with_reducible repeat (first | refine kN ?_ _ | refine kD ?_ | refine kA ?_ _)); refine blk_put (cs := #[.string ((rd_T69 l0 x15_1).f0), .int .i64 ((rd_T69 l0 x15_1).f1), .int .i64 0, .int .i64 0, .slice none 0 0, .bool false, .string (⟨#[]⟩ : ByteArray)]) ?_ 2 _ rfl; (with_reducible repeat (first | refine kN ?_ _ | refine kD ?_ | refine kA ?_ _)); refine blk_put (cs := #[.string ((rd_T69 l0 x15_1).f0), .int .i64 0, .int .i64 0, .int .i64 0, .slice none 0 0, .bool false, .string (⟨#[]⟩ : ByteArray)]) ?_ 1 _ rfl; (with_reducible repeat (first | refine kN ?_ _ | refine kD ?_ | refine kA ?_ _)); refine blk_put (cs := #[.string (⟨#[]⟩ : ByteArray), .int .i64 0, .int .i64 0, .int .i64 0, .slice none 0 0, .bool false, .string (⟨#[]⟩ : ByteArray)]) ?_ 0 _ rfl; (with_reducible repeat (first | refine kN ?_ _ | refine kD ?_ | refine kA ?_ _)); exact BK105.out) hb); have n2_ := Aside0.mk (below_step (by repeat (first | (with_reducible first | exact HB.out | apply bA | apply bN | apply bD | refine below_set ?_ GE105.out) | exact HB.out)) hb); clear HO_5 BK105 HB; have HO_5 := n0_; have BK105 := n1_; have HB := n2_; clear n0_ n1_ n2_; (try clear hb); (try clear hb2); (try clear hk); (try clear hi); have hcz30_0 := cz BK105.out 0; have hcz30_1 := cz BK105.out 1; have hcz30_2 := cz BK105.out 2; have hcz30_3 := cz BK105.out 3; have hcz30_4 := cz BK105.out 4; have hcz30_5 := cz BK105.out 5; have hcz30_6 := cz BK105.out 6; have hfz30_0 := blk_frozen BK105.out 0; have hfz30_1 := blk_frozen BK105.out 1; have hfz30_2 := blk_frozen BK105.out 2; have hfz30_3 := blk_frozen BK105.out 3; have hfz30_4 := blk_frozen BK105.out 4; have hfz30_5 := blk_frozen BK105.out 5; have hfz30_6 := blk_frozen BK105.out 6) | ((with_reducible refine gate_callee (f := 68) rfl ?_); refine gL (some 39) Tryd.func68 #[.slice (some ad104) l0.length c0, .string ((rd_T69 l0 x15_1).f6)] ?_; (with_reducible refine (impl_fieldOf.calls _ _ l0 ((rd_T69 l0 x15_1).f6) t109 _ ?side1 ?side2 A20.out).mono ?_); (case side1 => repeat (first | exact (Kd.C_below HR0.out HB.out) | (with_reducible first | refine cA ?_ _ | refine cN ?_ _ | refine cD ?_))); (case side2 => exact HC0.out); rintro e w31 ⟨rfl, hb⟩; refine ⟨_, rfl, ?_⟩; have n0_ := Aside0.mk (Kd.R_below (by (with_reducible repeat (first | apply rA | apply rN | apply rD)); exact HO_5.out) hb); have n1_ := Aside0.mk (blk_below (by (with_reducible repeat (first | refine kN ?_ _ | refine kD ?_ | refine kA ?_ _)); exact BK105.out) hb); have n2_ := Aside0.mk (below_step (eI HB) hb); clear HO_5 BK105 HB; have HO_5 := n0_; have BK105 := n1_; have HB := n2_; clear n0_ n1_ n2_; (try clear hb); (try clear hb2); (try clear hk); (try clear hi); obtain ⟨Ao32, co32, eo32⟩ := Kd.R_slice HO_5.out; subst eo32; have p110 : 0 ≤ (t109 : Int) := of_decide_eq_true (by first | (with_reducible assumption) | assumption); have q110 : t109 < (x5_1.length : Int) := of_decide_eq_true (by first | (with_reducible assumption) | assumption); obtain ⟨ad110, e110, hx110_0⟩ := Kd.at_bool (Kd.R_reads' HO_5.out).2.2 t109 p110 q110; (try rw [← Nbq23.out] at hx110_0); cases e110; replace p110 := eq_true p110; replace q110 := eq_true q110; have p26 : 0 ≤ (x15_1 : Int) := of_decide_eq_true (by first | (with_reducible assumption) | assumption); have q26 : (x15_1 : Int) < ((x5_1.length : Int) : Int) := of_decide_eq_true (by first | (with_reducible assumption) | assumption); obtain ⟨go26, co26, eo26, gb26, gl26, cl26, HG26⟩ := Kd.R_form HO_5.out (by omega); (first | cases eo26 | (injection eo26 with ea_ en_ ec_; (first | subst ea_ | (injection ea_ with ea_; subst ea_)); subst ec_; clear en_)); have GB26 := Aside0.mk gb26; have GG26 := Aside0.mk HG26; clear gb26 gl26 HG26; (first | simp only [add_plain] at hx110_0 | skip); obtain ⟨hx26_0, hf26_0⟩ := Kd.R_celln false HO_5.out (x15_1 : Int) p26 q26; replace p26 := eq_true p26; replace q26 := eq_true q26; obtain ⟨hy33_, hz33_⟩ := Kd.R_celln false HO_5.out (x15_1 : Int) (of_decide_eq_true (by first | (with_reducible assumption) | assumption)) (of_decide_eq_true (by first | (with_reducible assumption) | assumption)); have HP33 := Kd.R_putg HO_5.out (x15_1 : Int) (t107.toList == ([121, 101, 115] : List UInt8))) | ((with_reducible refine gate_store (t := 4) (p := 46) rfl ?_); refine store_event (t := 4) (p := 46) (v := ?vo_w34) (w1 := (w31.setCell ⟨go26, (x15_1 : Int).toNat, none⟩ (.bool (t107.toList == ([121, 101, 115] : List UInt8))))) ?hg ?ho ?hn ?hr ?_; (case ho => rfl); (case hg => rfl); (case hn => rfl); (case hr => first | (go_simp; done) | (go_simp; rfl)); intro w34 hw; have hg : w31.grownBy w34 (some go26) := (by rw [hw]; exact HP33.2); have hp_ : Kd.R Kd.bool 4 w34 w.heap.size (fun _ => True) (.slice (some ⟨go26, 0, none⟩) x5_1.length co32) y111 := (by rw [hw, Ny111.out]; exact HP33.1); clear HP33; have n0_ := Aside0.mk (hp_); have n1_ := Aside0.mk (blk_grown (by (with_reducible repeat (first | refine kN ?_ _ | refine kD ?_ | refine kA ?_ _)); exact BK105.out) hg (Kd.R_ne HO_5.out BK105.out (by decide))); have n2_ := Aside0.mk ((by rw [hw]; exact below_set (HB.out) GB26.out : Below w.heap.size w w34)); clear HO_5 BK105 HB; have HO_5 := n0_; have BK105 := n1_; have HB := n2_; clear n0_ n1_ n2_ hg hw hp_))
             go_roundg k1
             case measure => have := HK1.out; omega
             case rel => exact ⟨(y111), (wrap64 (x15_1 + 1)), (by first | rfl | (simp; done) | (simp [*]; done)), H', ⟨by have := HK1.out; omega⟩, ⟨rI HO_5⟩, ⟨eI HB⟩⟩
            ·rw [if_neg c25] at H
             exact absurd H (by simp)
           ·replace c24 := Bool.eq_false_iff.mpr c24
            subst c24; (rw [if_neg (show ¬ (false = true) by decide)] at H); (by_cases c35 : x15_1 < (x5_1.length : Int))
            ·rw [if_pos c35] at H
             (have c35b0 := decide_eq_true c35); clear c35; (obtain ⟨y112, hy112⟩ : ∃ y_ : List Bool, y_ = (x5_1.set (x15_1 : Int).toNat false) := ⟨_, rfl⟩); (replace H : (impl_visible.l0 k1 l0 l1 y112 l0 (l0.length : Int) (wrap64 (x15_1 + 1))) = some r := by first | (rw [hy112]; with_reducible exact H) | (have H2_ := (Option.bind_some _ _).symm.trans H; rw [hy112]; with_reducible exact H2_) | (have H2_ := (Option.bind_some _ _).symm.trans H; with_reducible exact H2_) | with_reducible exact H | (rw [hy112]; exact H) | exact H); (have Ny112 := Aside0.mk hy112); clear hy112; (have H' := Aside0.mk H); clear H; (have p104 : 0 ≤ (x15_1 : Int) := of_decide_eq_true (by first | (with_reducible assumption) | assumption)); (have q104 : x15_1 < (l0.length : Int) := of_decide_eq_true (by first | (with_reducible assumption) | assumption)); (obtain ⟨ad104, A104_4, c104_4, e104, hx104_0, hx104_1, hx104_2, hx104_3, hx104_4, hx104_5, hx104_6, hl104_4, hi104_4⟩ := at_T69 HR0.out x15_1 p104 q104); ((try rw [← Nbq23.out] at hx104_5)); (cases e104); (replace hx104_0 := (HB.out.cell (bltc w _ hx104_0)).trans hx104_0); (replace hx104_1 := (HB.out.cell (bltc w _ hx104_1)).trans hx104_1); (replace hx104_2 := (HB.out.cell (bltc w _ hx104_2)).trans hx104_2); (replace hx104_3 := (HB.out.cell (bltc w _ hx104_3)).trans hx104_3); (replace hx104_4 := (HB.out.cell (bltc w _ hx104_4)).trans hx104_4); (replace hx104_5 := (HB.out.cell (bltc w _ hx104_5)).trans hx104_5); (replace hx104_6 := (HB.out.cell (bltc w _ hx104_6)).trans hx104_6); (have HR104_4 := Aside0.mk hi104_4); (have HC104_4 := Aside0.mk hl104_4); clear hi104_4 hl104_4; (replace p104 := eq_true p104); (replace q104 := eq_true q104)
             go_wp2_with (first | ((with_reducible refine gate_dst (N := 7) rfl ?_); refine box_event ?hg (N := 7) ?hd (cs := #[.string (⟨#[]⟩ : ByteArray), .int .i64 0, .int .i64 0, .int .i64 0, .slice none 0 0, .bool false, .string (⟨#[]⟩ : ByteArray)]) (t := 69) ?hr ?_; (case hd => rfl); (case hg => rfl); (case hr => first | (go_simp; done) | (go_simp; rfl)); intro gb105 hg w37 hbox hb; have n0_ := Aside0.mk (Kd.R_below (by (with_reducible repeat (first | apply rA | apply rN | apply rD)); exact HO_5.out) hb); have hB_ := bz (by repeat (first | (with_reducible first | exact HB.out | apply bA | apply bN | apply bD) | exact HB.out)) hb; have n1_ := Aside0.mk (below_step hB_ hb); have n2_ := Aside0.mk (hbox); have n3_ := Aside0.mk ((by rw [hg]; exact (below_size hB_) : w.heap.size ≤ gb105)); have n4_ := n3_; clear HO_5 HB; have HO_5 := n0_; have HB := n1_; have BK105 := n2_; have GW105 := n3_; have GE105 := n4_; clear n0_ n1_ n2_ n3_ n4_ hB_ hb hbox hg; have hcz38_0 := cz BK105.out 0; have hcz38_1 := cz BK105.out 1; have hcz38_2 := cz BK105.out 2; have hcz38_3 := cz BK105.out 3; have hcz38_4 := cz BK105.out 4; have hcz38_5 := cz BK105.out 5; have hcz38_6 := cz BK105.out 6; have hfz38_0 := blk_frozen BK105.out 0; have hfz38_1 := blk_frozen BK105.out 1; have hfz38_2 := blk_frozen BK105.out 2; have hfz38_3 := blk_frozen BK105.out 3; have hfz38_4 := blk_frozen BK105.out 4; have hfz38_5 := blk_frozen BK105.out 5; have hfz38_6 := blk_frozen BK105.out 6) | ((with_reducible refine gate_callee (f := 70) rfl ?_); refine gL (some 30) Tryd.func70 #[.slice A1 l1.length c1, .string ((rd_T69 l0 x15_1).f6)] ?_; (with_reducible refine (impl_answerOf.calls _ _ l1 ((rd_T69 l0 x15_1).f6) t107 t108 _ ?side1 ?side2 A19.out).mono ?_); (case side1 => exact Kd.C_below HR1.out (by repeat (first | (with_reducible first | exact HB.out | apply bA | apply bN | apply bD | refine below_set ?_ GE105.out) | exact HB.out))); (case side2 => exact HC1.out); rintro e w39 ⟨rfl, hb⟩; refine ⟨_, rfl, ?_⟩; have n0_ := Aside0.mk (Kd.R_below (by (with_reducible repeat (first | apply rA | apply rN | apply rD)); exact (Kd.R_mono (Kd.R_far (p := ⟨gb105, 6, none⟩) (Kd.R_far (p := ⟨gb105, 5, none⟩) (Kd.R_far (p := ⟨gb105, 4, none⟩) (Kd.R_far (p := ⟨gb105, 3, none⟩) (Kd.R_far (p := ⟨gb105, 2, none⟩) (Kd.R_far (p := ⟨gb105, 1, none⟩) (Kd.R_far (p := ⟨gb105, 0, none⟩) (Kd.R_types HO_5.out BK105.out (by decide)) (fun _ hk => hk.2) (.string ((rd_T69 l0 x15_1).f0))) (fun _ hk => hk.2) (.int .i64 ((rd_T69 l0 x15_1).f1))) (fun _ hk => hk.2) (.int .i64 ((rd_T69 l0 x15_1).f2))) (fun _ hk => hk.2) (.int .i64 ((rd_T69 l0 x15_1).f3))) (fun _ hk => hk.2) (.slice A104_4 ((rd_T69 l0 x15_1).f4).length c104_4)) (fun _ hk => hk.2) (.bool ((rd_T69 l0 x15_1).f5))) (fun _ hk => hk.2) (.string ((rd_T69 l0 x15_1).f6))) (fun _ h_ => h_.1))) hb); have n1_ := Aside0.mk (blk_below (g := gb105) (o := .cells #[.string ((rd_T69 l0 x15_1).f0), .int .i64 ((rd_T69 l0 x15_1).f1), .int .i64 ((rd_T69 l0 x15_1).f2), .int .i64 ((rd_T69 l0 x15_1).f3), .slice A104_4 ((rd_T69 l0 x15_1).f4).length c104_4, .bool ((rd_T69 l0 x15_1).f5), .string ((rd_T69 l0 x15_1).f6)] 69 (0, 0)) (by (with_reducible repeat (first | refine kN ?_ _ | refine kD ?_ | refine kA ?_ _)); refine blk_put (cs := #[.string ((rd_T69 l0 x15_1).f0), .int .i64 ((rd_T69 l0 x15_1).f1), .int .i64 ((rd_T69 l0 x15_1).f2), .int .i64 ((rd_T69 l0 x15_1).f3), .slice A104_4 ((rd_T69 l0 x15_1).f4).length c104_4, .bool ((rd_T69 l0 x15_1).f5), .string (⟨#[]⟩ : ByteArray)]) ?_ 6 _ rfl; (with_reducible repeat (first | refine kN ?_ _ | refine kD ?_ | refine kA ?_ _)); refine blk_put (cs := #[.string ((rd_T69 l0 x15_1).f0), .int .i64 ((rd_T69 l0 x15_1).f1), .int .i64 ((rd_T69 l0 x15_1).f2), .int .i64 ((rd_T69 l0 x15_1).f3), .slice A104_4 ((rd_T69 l0 x15_1).f4).length c104_4, .bool false, .string (⟨#[]⟩ : ByteArray)]) ?_ 5 _ rfl; (with_reducible repeat (first | refine kN ?_ _ | refine kD ?_ | refine kA ?_ _)); refine blk_put (cs := #[.string ((rd_T69 l0 x15_1).f0), .int .i64 ((rd_T69 l0 x15_1).f1), .int .i64 ((rd_T69 l0 x15_1).f2), .int .i64 ((rd_T69 l0 x15_1).f3), .slice none 0 0, .bool false, .string (⟨#[]⟩ : ByteArray)]) ?_ 4 _ rfl; (with_reducible repeat (first | refine kN ?_ _ | refine kD ?_ | refine kA ?_ _)); refine blk_put (cs := #[.string ((rd_T69 l0 x15_1).f0), .int .i64 ((rd_T69 l0 x15_1).f1), .int .i64 ((rd_T69 l0 x15_1).f2), .int .i64 0, .slice none 0 0, .bool false, .string (⟨#[]⟩ : ByteArray)]) ?_ 3 _ rfl; (with_reducible repeat (first | refine kN ?_ _ | refine kD ?_ | refine kA ?_ _)); refine blk_put (cs := #[.string ((rd_T69 l0 x15_1).f0), .int .i64 ((rd_T69 l0 x15_1).f1), .int .i64 0, .int .i64 0, .slice none 0 0, .bool false, .string (⟨#[]⟩ : ByteArray)]) ?_ 2 _ rfl; (with_reducible repeat (first | refine kN ?_ _ | refine kD ?_ | refine kA ?_ _)); refine blk_put (cs := #[.string ((rd_T69 l0 x15_1).f0), .int .i64 0, .int .i64 0, .int .i64 0, .slice none 0 0, .bool false, .string (⟨#[]⟩ : ByteArray)]) ?_ 1 _ rfl; (with_reducible repeat (first | refine kN ?_ _ | refine kD ?_ | refine kA ?_ _)); refine blk_put (cs := #[.string (⟨#[]⟩ : ByteArray), .int .i64 0, .int .i64 0, .int .i64 0, .slice none 0 0, .bool false, .string (⟨#[]⟩ : ByteArray)]) ?_ 0 _ rfl; (with_reducible repeat (first | refine kN ?_ _ | refine kD ?_ | refine kA ?_ _)); exact BK105.out) hb); have n2_ := Aside0.mk (below_step (by repeat (first | (with_reducible first | exact HB.out | apply bA | apply bN | apply bD | refine below_set ?_ GE105.out) | exact HB.out)) hb); clear HO_5 BK105 HB; have HO_5 := n0_; have BK105 := n1_; have HB := n2_; clear n0_ n1_ n2_; (try clear hb); (try clear hb2); (try clear hk); (try clear hi); have hcz40_0 := cz BK105.out 0; have hcz40_1 := cz BK105.out 1; have hcz40_2 := cz BK105.out 2; have hcz40_3 := cz BK105.out 3; have hcz40_4 := cz BK105.out 4; have hcz40_5 := cz BK105.out 5; have hcz40_6 := cz BK105.out 6; have hfz40_0 := blk_frozen BK105.out 0; have hfz40_1 := blk_frozen BK105.out 1; have hfz40_2 := blk_frozen BK105.out 2; have hfz40_3 := blk_frozen BK105.out 3; have hfz40_4 := blk_frozen BK105.out 4; have hfz40_5 := blk_frozen BK105.out 5; have hfz40_6 := blk_frozen BK105.out 6) | ((with_reducible refine gate_callee (f := 68) rfl ?_); refine gL (some 39) Tryd.func68 #[.slice (some ad104) l0.length c0, .string ((rd_T69 l0 x15_1).f6)] ?_; (with_reducible refine (impl_fieldOf.calls _ _ l0 ((rd_T69 l0 x15_1).f6) t109 _ ?side1 ?side2 A20.out).mono ?_); (case side1 => repeat (first | exact (Kd.C_below HR0.out HB.out) | (with_reducible first | refine cA ?_ _ | refine cN ?_ _ | refine cD ?_))); (case side2 => exact HC0.out); rintro e w41 ⟨rfl, hb⟩; refine ⟨_, rfl, ?_⟩; have n0_ := Aside0.mk (Kd.R_below (by (with_reducible repeat (first | apply rA | apply rN | apply rD)); exact HO_5.out) hb); have n1_ := Aside0.mk (blk_below (by (with_reducible repeat (first | refine kN ?_ _ | refine kD ?_ | refine kA ?_ _)); exact BK105.out) hb); have n2_ := Aside0.mk (below_step (by repeat (first | (with_reducible first | exact HB.out | apply bA | apply bN | apply bD | refine below_set ?_ GE105.out) | exact HB.out)) hb); clear HO_5 BK105 HB; have HO_5 := n0_; have BK105 := n1_; have HB := n2_; clear n0_ n1_ n2_; (try clear hb); (try clear hb2); (try clear hk); (try clear hi); obtain ⟨Ao42, co42, eo42⟩ := Kd.R_slice HO_5.out; subst eo42; have p110 : 0 ≤ (t109 : Int) := of_decide_eq_true (by first | (with_reducible assumption) | assumption); have q110 : t109 < (x5_1.length : Int) := of_decide_eq_true (by first | (with_reducible assumption) | assumption); obtain ⟨ad110, e110, hx110_0⟩ := Kd.at_bool (Kd.R_reads' HO_5.out).2.2 t109 p110 q110; (try rw [← Nbq23.out] at hx110_0); cases e110; replace p110 := eq_true p110; replace q110 := eq_true q110; have p36 : 0 ≤ (x15_1 : Int) := of_decide_eq_true (by first | (with_reducible assumption) | assumption); have q36 : (x15_1 : Int) < ((x5_1.length : Int) : Int) := of_decide_eq_true (by first | (with_reducible assumption) | assumption); obtain ⟨go36, co36, eo36, gb36, gl36, cl36, HG36⟩ := Kd.R_form HO_5.out (by omega); (first | cases eo36 | (injection eo36 with ea_ en_ ec_; (first | subst ea_ | (injection ea_ with ea_; subst ea_)); subst ec_; clear en_)); have GB36 := Aside0.mk gb36; have GG36 := Aside0.mk HG36; clear gb36 gl36 HG36; (first | simp only [add_plain] at hx110_0 | skip); obtain ⟨hx36_0, hf36_0⟩ := Kd.R_celln false HO_5.out (x15_1 : Int) p36 q36; replace p36 := eq_true p36; replace q36 := eq_true q36; obtain ⟨hy43_, hz43_⟩ := Kd.R_celln false HO_5.out (x15_1 : Int) (of_decide_eq_true (by first | (with_reducible assumption) | assumption)) (of_decide_eq_true (by first | (with_reducible assumption) | assumption)); have HP43 := Kd.R_putg HO_5.out (x15_1 : Int) false) | ((with_reducible refine gate_store (t := 4) (p := 46) rfl ?_); refine store_event (t := 4) (p := 46) (v := ?vo_w44) (w1 := (w41.setCell ⟨go36, (x15_1 : Int).toNat, none⟩ (.bool false))) ?hg ?ho ?hn ?hr ?_; (case ho => rfl); (case hg => rfl); (case hn => rfl); (case hr => first | (go_simp; done) | (go_simp; rfl)); intro w44 hw; have hg : w41.grownBy w44 (some go36) := (by rw [hw]; exact HP43.2); have hp_ : Kd.R Kd.bool 4 w44 w.heap.size (fun _ => True) (.slice (some ⟨go36, 0, none⟩) x5_1.length co42) y112 := (by rw [hw, Ny112.out]; exact HP43.1); clear HP43; have n0_ := Aside0.mk (hp_); have n1_ := Aside0.mk (blk_grown (by (with_reducible repeat (first | refine kN ?_ _ | refine kD ?_ | refine kA ?_ _)); exact BK105.out) hg (Kd.R_ne HO_5.out BK105.out (by decide))); have n2_ := Aside0.mk ((by rw [hw]; exact below_set (HB.out) GB36.out : Below w.heap.size w w44)); clear HO_5 BK105 HB; have HO_5 := n0_; have BK105 := n1_; have HB := n2_; clear n0_ n1_ n2_ hg hw hp_))
             go_roundg k1
             case measure => have := HK1.out; omega
             case rel => exact ⟨(y112), (wrap64 (x15_1 + 1)), (by first | rfl | (simp; done) | (simp [*]; done)), H', ⟨by have := HK1.out; omega⟩, ⟨by (with_reducible repeat (first | apply rA | apply rN | apply rD)); exact HO_5.out⟩, ⟨by repeat (first | (with_reducible first | exact HB.out | apply bA | apply bN | apply bD | refine below_set ?_ GE105.out) | exact HB.out)⟩⟩
            ·rw [if_neg c35] at H
             exact absurd H (by simp)
          ·rw [if_neg c22] at H
           exact absurd H (by simp)
         ·rw [if_neg c21] at H
          exact absurd H (by simp)
       ·rw [if_neg c9] at H
        exact absurd H (by simp)
      ·rw [if_neg c8] at H
       exact absurd H (by simp)
     ·rw [if_neg c7] at H
      (have c7b0 := decide_eq_false c7); clear c7; (obtain rfl := Option.some.inj H); (go_wp2); go_ret; (exact ⟨_, by first | rfl | (simp [errW_none, errW_some] <;> rfl) | (simp [*, errW_none, errW_some] <;> rfl), rI HO_5, eI HB⟩)
  ·rw [if_neg c4] at H
   exact absurd H (by simp)
 ·rw [if_neg c3] at H
  exact absurd H (by simp)

end Go.Proofs.YtdogpphfofimeaaDoor.X
namespace Go.Proofs
open Go.Shelf
def Tryd.laysM171_ren : Go.Shelf.Ren := ⟨fun | 171 => 85 | 243 => 110 | 246 => 120 | 283 => 129 | 284 => 130 | 285 => 131 | 286 => 132 | 129 => 146 | 317 => 145 | 318 => 147 | 319 => 148 | 320 => 149 | 337 => 155 | 338 => 156 | n => n, fun | 3 => 3 | 9 => 9 | 2 => 2 | 4 => 4 | 171 => 139 | 0 => 0 | 53 => 85 | 37 => 45 | 5 => 5 | 173 => 142 | 212 => 154 | 51 => 155 | 20 => 20 | 213 => 156 | 46 => 133 | 232 => 175 | 233 => 176 | n => n, fun | 17 => 1 | 18 => 6 | 19 => 7 | n => n⟩
theorem Tryd.laysM171 : Go.Proofs.LaysM.n171 Tryd.prog Tryd.laysM171_ren := {
  mixed := by kernel_rfl
  f129 := Tryd.func146.trans (congrArg some (by kernel_rfl))
  f171 := Tryd.func85.trans (congrArg some (by kernel_rfl))
  f243 := Tryd.func110.trans (congrArg some (by kernel_rfl))
  f246 := Tryd.func120.trans (congrArg some (by kernel_rfl))
  f283 := Tryd.func129.trans (congrArg some (by kernel_rfl))
  f284 := Tryd.func130.trans (congrArg some (by kernel_rfl))
  f285 := Tryd.func131.trans (congrArg some (by kernel_rfl))
  f286 := Tryd.func132.trans (congrArg some (by kernel_rfl))
  f317 := Tryd.func145.trans (congrArg some (by kernel_rfl))
  f318 := Tryd.func147.trans (congrArg some (by kernel_rfl))
  f319 := Tryd.func148.trans (congrArg some (by kernel_rfl))
  f320 := Tryd.func149.trans (congrArg some (by kernel_rfl))
  f337 := Tryd.func155.trans (congrArg some (by kernel_rfl))
  f338 := Tryd.func156.trans (congrArg some (by kernel_rfl))
  t0 := Tryd.underlying0
  a0 := Tryd.isAgg0
  z0 := Tryd.sizeOf0
  v0 := Tryd.zeroValue0
  t2 := Tryd.underlying2
  a2 := Tryd.isAgg2
  z2 := Tryd.sizeOf2
  v2 := Tryd.zeroValue2
  t3 := Tryd.underlying3
  a3 := Tryd.isAgg3
  z3 := Tryd.sizeOf3
  v3 := Tryd.zeroValue3
  t4 := Tryd.underlying4
  a4 := Tryd.isAgg4
  z4 := Tryd.sizeOf4
  v4 := Tryd.zeroValue4
  t5 := Tryd.underlying5
  a5 := Tryd.isAgg5
  z5 := Tryd.sizeOf5
  v5 := Tryd.zeroValue5
  t9 := Tryd.underlying9
  a9 := Tryd.isAgg9
  z9 := Tryd.sizeOf9
  v9 := Tryd.zeroValue9
  t20 := Tryd.underlying20
  a20 := Tryd.isAgg20
  z20 := Tryd.sizeOf20
  v20 := Tryd.zeroValue20
  t37 := Tryd.underlying45
  a37 := Tryd.isAgg45
  z37 := Tryd.sizeOf45
  v37 := Tryd.zeroValue45
  t46 := Tryd.underlying133
  a46 := Tryd.isAgg133
  z46 := Tryd.sizeOf133
  v46 := Tryd.zeroValue133
  t51 := Tryd.underlying155
  a51 := Tryd.isAgg155
  z51 := Tryd.sizeOf155
  v51 := Tryd.zeroValue155
  t53 := Tryd.underlying85
  a53 := Tryd.isAgg85
  z53 := Tryd.sizeOf85
  v53 := Tryd.zeroValue85
  t171 := Tryd.underlying139
  a171 := Tryd.isAgg139
  z171 := Tryd.sizeOf139
  v171 := Tryd.zeroValue139
  t173 := Tryd.underlying142
  a173 := Tryd.isAgg142
  z173 := Tryd.sizeOf142
  v173 := Tryd.zeroValue142
  t212 := Tryd.underlying154
  a212 := Tryd.isAgg154
  z212 := Tryd.sizeOf154
  v212 := Tryd.zeroValue154
  t213 := Tryd.underlying156
  a213 := Tryd.isAgg156
  z213 := Tryd.sizeOf156
  t232 := Tryd.underlying175
  a232 := Tryd.isAgg175
  z232 := Tryd.sizeOf175
  v232 := Tryd.zeroValue175
  t233 := Tryd.underlying176
  a233 := Tryd.isAgg176
  z233 := Tryd.sizeOf176
  v233 := Tryd.zeroValue176
  g17 := by kernel_rfl
  g18 := by kernel_rfl
  g19 := by kernel_rfl
  i0 := by kernel_rfl
  i2 := by kernel_rfl
  i3 := by kernel_rfl
  i4 := by kernel_rfl
  i5 := by kernel_rfl
  i9 := by kernel_rfl
  i20 := by kernel_rfl
  i37 := by kernel_rfl
  i46 := by kernel_rfl
  i51 := by kernel_rfl
  i53 := by kernel_rfl
  i171 := by kernel_rfl
  i173 := by kernel_rfl
  i212 := by kernel_rfl
  i232 := by kernel_rfl
  i233 := by kernel_rfl
  m17 := by kernel_rfl
  m18 := by kernel_rfl
  m19 := by kernel_rfl }
open Go.RowKit Go.Sort Go.Lib in
/-- strconv.Itoa: "Itoa is equivalent to FormatInt(int64(i), 10).": i's DECIMAL NUMERAL ('Lib.itoa': a '-' where i is negative, then the digits), FOR EVERY int. The world behind the call: the world before it, new blocks behind the heap (the library's 'var a [24]byte'), draws. (LAID: no walk: one application.) -/
theorem Tryd.strconv_Itoa (n : Int) (h0 : -9223372036854775808 ≤ n) (h1 : n ≤ 9223372036854775807) (w : World) (htab : Lib.TabIs Tryd.prog w "internal/strconv.uint64pow10" .u64 Lib.pow10Tab) :
    Calls Tryd.prog 85 #[.int .i64 n] w fun e w' => e = .returned (.string ⟨(Lib.itoa n).toArray⟩) ∧ ∃ k os, w' = grow (w.drewN k) os := Any.strconv_Itoa Tryd.laysM171 n h0 h1 w htab
def Tryd.laysC172_ren : Go.Shelf.Ren := ⟨fun | 172 => 118 | 244 => 127 | 245 => 128 | 247 => 140 | 279 => 141 | 280 => 142 | 281 => 143 | 282 => 144 | 287 => 152 | 316 => 153 | 171 => 85 | 205 => 154 | 321 => 157 | 322 => 158 | 243 => 110 | 246 => 120 | 283 => 129 | 284 => 130 | 285 => 131 | 286 => 132 | 129 => 146 | 317 => 145 | 318 => 147 | 319 => 148 | 320 => 149 | 337 => 155 | 338 => 156 | n => n, fun | 9 => 9 | 3 => 3 | 75 => 124 | 76 => 125 | 4 => 4 | 5 => 5 | 167 => 147 | 37 => 45 | 0 => 0 | 85 => 148 | 2 => 2 | 168 => 150 | 53 => 85 | 175 => 164 | 46 => 133 | 210 => 168 | 127 => 132 | 145 => 174 | 143 => 172 | 21 => 21 | 171 => 139 | 173 => 142 | 212 => 154 | 51 => 155 | 20 => 20 | 213 => 156 | 232 => 175 | 233 => 176 | 80 => 127 | n => n, fun | 15 => 4 | 16 => 5 | 17 => 1 | 18 => 6 | 19 => 7 | n => n⟩
theorem Tryd.laysC172 : Go.Proofs.LaysC.n172 Tryd.prog Tryd.laysC172_ren := {
  mixed := by kernel_rfl
  f129 := Tryd.func146.trans (congrArg some (by kernel_rfl))
  f171 := Tryd.func85.trans (congrArg some (by kernel_rfl))
  f172 := Tryd.func118.trans (congrArg some (by kernel_rfl))
  f205 := Tryd.func154.trans (congrArg some (by kernel_rfl))
  f243 := Tryd.func110.trans (congrArg some (by kernel_rfl))
  f244 := Tryd.func127.trans (congrArg some (by kernel_rfl))
  f245 := Tryd.func128.trans (congrArg some (by kernel_rfl))
  f246 := Tryd.func120.trans (congrArg some (by kernel_rfl))
  f247 := Tryd.func140.trans (congrArg some (by kernel_rfl))
  f279 := Tryd.func141.trans (congrArg some (by kernel_rfl))
  f280 := Tryd.func142.trans (congrArg some (by kernel_rfl))
  f281 := Tryd.func143.trans (congrArg some (by kernel_rfl))
  f282 := Tryd.func144.trans (congrArg some (by kernel_rfl))
  f283 := Tryd.func129.trans (congrArg some (by kernel_rfl))
  f284 := Tryd.func130.trans (congrArg some (by kernel_rfl))
  f285 := Tryd.func131.trans (congrArg some (by kernel_rfl))
  f286 := Tryd.func132.trans (congrArg some (by kernel_rfl))
  f287 := Tryd.func152.trans (congrArg some (by kernel_rfl))
  f316 := Tryd.func153.trans (congrArg some (by kernel_rfl))
  f317 := Tryd.func145.trans (congrArg some (by kernel_rfl))
  f318 := Tryd.func147.trans (congrArg some (by kernel_rfl))
  f319 := Tryd.func148.trans (congrArg some (by kernel_rfl))
  f320 := Tryd.func149.trans (congrArg some (by kernel_rfl))
  f321 := Tryd.func157.trans (congrArg some (by kernel_rfl))
  f322 := Tryd.func158.trans (congrArg some (by kernel_rfl))
  f337 := Tryd.func155.trans (congrArg some (by kernel_rfl))
  f338 := Tryd.func156.trans (congrArg some (by kernel_rfl))
  t0 := Tryd.underlying0
  a0 := Tryd.isAgg0
  z0 := Tryd.sizeOf0
  v0 := Tryd.zeroValue0
  t2 := Tryd.underlying2
  a2 := Tryd.isAgg2
  z2 := Tryd.sizeOf2
  v2 := Tryd.zeroValue2
  t3 := Tryd.underlying3
  a3 := Tryd.isAgg3
  z3 := Tryd.sizeOf3
  v3 := Tryd.zeroValue3
  t4 := Tryd.underlying4
  a4 := Tryd.isAgg4
  z4 := Tryd.sizeOf4
  v4 := Tryd.zeroValue4
  t5 := Tryd.underlying5
  a5 := Tryd.isAgg5
  z5 := Tryd.sizeOf5
  v5 := Tryd.zeroValue5
  t9 := Tryd.underlying9
  a9 := Tryd.isAgg9
  z9 := Tryd.sizeOf9
  v9 := Tryd.zeroValue9
  t20 := Tryd.underlying20
  a20 := Tryd.isAgg20
  z20 := Tryd.sizeOf20
  v20 := Tryd.zeroValue20
  t21 := Tryd.underlying21
  a21 := Tryd.isAgg21
  z21 := Tryd.sizeOf21
  v21 := Tryd.zeroValue21
  t37 := Tryd.underlying45
  a37 := Tryd.isAgg45
  z37 := Tryd.sizeOf45
  v37 := Tryd.zeroValue45
  t46 := Tryd.underlying133
  a46 := Tryd.isAgg133
  z46 := Tryd.sizeOf133
  v46 := Tryd.zeroValue133
  t51 := Tryd.underlying155
  a51 := Tryd.isAgg155
  z51 := Tryd.sizeOf155
  v51 := Tryd.zeroValue155
  t53 := Tryd.underlying85
  a53 := Tryd.isAgg85
  z53 := Tryd.sizeOf85
  v53 := Tryd.zeroValue85
  t75 := Tryd.underlying124
  a75 := Tryd.isAgg124
  z75 := Tryd.sizeOf124
  v75 := Tryd.zeroValue124
  t76 := Tryd.underlying125
  a76 := Tryd.isAgg125
  z76 := Tryd.sizeOf125
  v76 := Tryd.zeroValue125
  t85 := Tryd.underlying148
  a85 := Tryd.isAgg148
  z85 := Tryd.sizeOf148
  v85 := Tryd.zeroValue148
  t127 := Tryd.underlying132
  a127 := Tryd.isAgg132
  z127 := Tryd.sizeOf132
  v127 := Tryd.zeroValue132
  t143 := Tryd.underlying172
  a143 := Tryd.isAgg172
  z143 := Tryd.sizeOf172
  v143 := Tryd.zeroValue172
  t145 := Tryd.underlying174
  a145 := Tryd.isAgg174
  z145 := Tryd.sizeOf174
  v145 := Tryd.zeroValue174
  t167 := Tryd.underlying147
  a167 := Tryd.isAgg147
  z167 := Tryd.sizeOf147
  v167 := Tryd.zeroValue147
  t168 := Tryd.underlying150
  a168 := Tryd.isAgg150
  z168 := Tryd.sizeOf150
  v168 := Tryd.zeroValue150
  t171 := Tryd.underlying139
  a171 := Tryd.isAgg139
  z171 := Tryd.sizeOf139
  v171 := Tryd.zeroValue139
  t173 := Tryd.underlying142
  a173 := Tryd.isAgg142
  z173 := Tryd.sizeOf142
  v173 := Tryd.zeroValue142
  t175 := Tryd.underlying164
  a175 := Tryd.isAgg164
  z175 := Tryd.sizeOf164
  v175 := Tryd.zeroValue164
  t210 := Tryd.underlying168
  a210 := Tryd.isAgg168
  z210 := Tryd.sizeOf168
  v210 := Tryd.zeroValue168
  t212 := Tryd.underlying154
  a212 := Tryd.isAgg154
  z212 := Tryd.sizeOf154
  v212 := Tryd.zeroValue154
  t213 := Tryd.underlying156
  a213 := Tryd.isAgg156
  z213 := Tryd.sizeOf156
  t232 := Tryd.underlying175
  a232 := Tryd.isAgg175
  z232 := Tryd.sizeOf175
  v232 := Tryd.zeroValue175
  t233 := Tryd.underlying176
  a233 := Tryd.isAgg176
  z233 := Tryd.sizeOf176
  v233 := Tryd.zeroValue176
  g15 := by kernel_rfl
  g16 := by kernel_rfl
  g17 := by kernel_rfl
  g18 := by kernel_rfl
  g19 := by kernel_rfl
  t80 := Tryd.underlying127
  a80 := Tryd.isAgg127
  z80 := Tryd.sizeOf127
  v80 := Tryd.zeroValue127
  i0 := by kernel_rfl
  i2 := by kernel_rfl
  i3 := by kernel_rfl
  i4 := by kernel_rfl
  i5 := by kernel_rfl
  i9 := by kernel_rfl
  i20 := by kernel_rfl
  i21 := by kernel_rfl
  i37 := by kernel_rfl
  i46 := by kernel_rfl
  i51 := by kernel_rfl
  i53 := by kernel_rfl
  i75 := by kernel_rfl
  i76 := by kernel_rfl
  i80 := by kernel_rfl
  i85 := by kernel_rfl
  i127 := by kernel_rfl
  i143 := by kernel_rfl
  i145 := by kernel_rfl
  i167 := by kernel_rfl
  i168 := by kernel_rfl
  i171 := by kernel_rfl
  i173 := by kernel_rfl
  i175 := by kernel_rfl
  i210 := by kernel_rfl
  i212 := by kernel_rfl
  i232 := by kernel_rfl
  i233 := by kernel_rfl
  m15 := by kernel_rfl
  m16 := by kernel_rfl
  m17 := by kernel_rfl
  m18 := by kernel_rfl
  m19 := by kernel_rfl
  c0 := by kernel_rfl
  c2 := by kernel_rfl
  c3 := by kernel_rfl
  c4 := by kernel_rfl
  c5 := by kernel_rfl
  c9 := by kernel_rfl
  c20 := by kernel_rfl
  c21 := by kernel_rfl
  c37 := by kernel_rfl
  c46 := by kernel_rfl
  c51 := by kernel_rfl
  c53 := by kernel_rfl
  c75 := by kernel_rfl
  c76 := by kernel_rfl
  c80 := by kernel_rfl
  c85 := by kernel_rfl
  c127 := by kernel_rfl
  c143 := by kernel_rfl
  c145 := by kernel_rfl
  c167 := by kernel_rfl
  c168 := by kernel_rfl
  c171 := by kernel_rfl
  c173 := by kernel_rfl
  c175 := by kernel_rfl
  c210 := by kernel_rfl
  c212 := by kernel_rfl
  c213 := by kernel_rfl
  c232 := by kernel_rfl
  c233 := by kernel_rfl }
open Go.RowKit in
/-- strconv.Atoi, AT EVERY STRING THAT SPELLS AN int ('Lib.atoiAll .. = .ok v'; of whatever length: leading zeros count): v, AND NO ERROR. The world: as it was, or with the one new row that '[]byte(..)' lays. (LAID: no walk: one application.) -/
theorem Tryd.strconv_Atoi_ok (s : ByteArray) (hmax : s.size ≤ 9223372036854775806) (v : Int) (h : Lib.atoiAll s.data.toList = .ok v) (w : World) :
    Calls Tryd.prog 118 #[.string s] w fun e w' => e = .returned (.tuple #[.int .i64 v, .nilIface]) ∧ (w' = w ∨ ∃ t, w' = Lib.bytesWorld w 5 t) := Any.strconv_Atoi_ok Tryd.laysC172 s hmax v h w
open Go.RowKit in
/-- strconv.Atoi, AT EVERY NUMERAL THAT NO int HOLDS ('.range'): THE GREATEST OR THE LEAST int, BY THE SIGN ('Lib.atoiSat'), AND AN ERROR THAT IS NOT nil: a *NumError in a new block N: {Func: "Atoi", Num: s's bytes, Err: what the variable ErrRange holds}. Of what was there nothing has turned. (LAID: no walk: one application.) -/
theorem Tryd.strconv_Atoi_range (s : ByteArray) (hlim : s.size ≤ 281474976710656) (h : Lib.atoiAll s.data.toList = .range) (ev : Value) (w : World) (hv : w.cell? ⟨5, 0, none⟩ = some ev) (hev : ev = .nilIface ∨ ∃ te pe, ev = .iface te pe) :
    Calls Tryd.prog 118 #[.string s] w fun e w' => ∃ N, e = .returned (.tuple #[.int .i64 (Lib.atoiSat s.data.toList), .iface 150 (.pointer (some ⟨N, 0, none⟩))]) ∧ w.heap.size ≤ N ∧ w'.heap[N]? = some (.cells #[.string ⟨#[65, 116, 111, 105]⟩, .string s, ev] 168 (0, 0)) ∧ Below w.heap.size w w' := Any.strconv_Atoi_range Tryd.laysC172 s hlim h ev w hv hev
end Go.Proofs
namespace Go.Proofs.YtdogpphfofimeaaDoor.X
open Go.RowKit Go.Proofs.YtdogpphfofimeaaDoorW.PrintWords Go.Proofs.YtdogpphfofimeaaDoorW.PrintLast Go.Proofs.YtdogpphfofimeaaDoorW.PrintMore Go.Proofs.YtdogpphfofimeaaDoor.E
attribute [local go_sem] max2_int min2_int max_two min_two max_three min_three max_four min_four   -- for this text's walks alone
set_option linter.unusedVariables false
set_option linter.unusedSimpArgs false
attribute [-simp] ByteArray.size_append ByteArray.size_extract
attribute [-go_sem] ByteArray.size_append'

/-! ### strconv_Itoa: function 85 -/
def strconv_Itoa.f (a0 : Int) : Option ByteArray := if -9223372036854775808 ≤ a0 ∧ a0 ≤ 9223372036854775807 then some ⟨(Lib.itoa a0).toArray⟩ else none
theorem strconv_Itoa.calls (a0 : Int) (r : ByteArray) (w : World) (hG : GT w) (h : strconv_Itoa.f a0 = some r) :
  Calls Tryd.prog 85 #[.int .i64 a0] w fun e w' => e = .returned (.string r) ∧ Below w.heap.size w w' := by
 (unfold strconv_Itoa.f at h); (split at h); (· (rename_i hc); (cases h); (refine (Tryd.strconv_Itoa a0 hc.1 hc.2 w hG).mono ?_); (rintro e w' ⟨rfl, k, os, rfl⟩); (exact ⟨rfl, Lib.below_grow _ _ (Nat.le_refl _) _ _⟩)); (· (cases h))
/-! ### impl_ParseInt: function 102 -/
def parseE (s : ByteArray) : Int × Bool := match Lib.atoiAll s.data.toList with
 | .ok v => if (-999999 ≤ v ∧ v ≤ 999999) ∧ Lib.itoa v = s.data.toList then (v, true) else (0, false)
 | _ => (0, false)
def impl_ParseInt.f (a0 : ByteArray) : Option (Int × Bool) := if a0.size ≤ 281474976710656 then some (parseE a0) else none
theorem atoi_ok_below {s : ByteArray} {v : Int} (hz : s.size ≤ 281474976710656) (h : Lib.atoiAll s.data.toList = .ok v) (w : World) : Calls Tryd.prog 118 #[.string s] w fun e w' => e = .returned (.tuple #[.int .i64 v, .nilIface]) ∧ Below w.heap.size w w' := by
 (refine (Tryd.strconv_Atoi_ok s (by omega) v h w).mono ?_); (rintro e w' ⟨he, hw⟩); (refine ⟨he, ?_⟩); (rcases hw with rfl | ⟨t, rfl⟩); (· (exact Below.refl _ _)); (· (exact Joins.below_bytesWorld _ _ _ _ (Nat.le_refl _)))
theorem atoi_bad {s : ByteArray} (hz : s.size ≤ 281474976710656) (h : ∀ v, Lib.atoiAll s.data.toList ≠ .ok v) (w : World) (hE : GE w) : Calls Tryd.prog 118 #[.string s] w fun e w' => ∃ (n : Int) (t : TypeId) (v : Value), e = .returned (.tuple #[.int .i64 n, .iface t v]) ∧ Below w.heap.size w w' := by
 obtain ⟨_, ⟨t1, p1, h1⟩, ⟨t2, p2, h2⟩⟩ := hE
 cases hc : Lib.atoiAll s.data.toList
 ·rename_i v; exact absurd hc (h v)
 ·exact (Any.strconv_Atoi_syntax Tryd.laysC172 s hz hc _ w h1 (Or.inr ⟨_, _, rfl⟩)).mono fun e w' ⟨N, he, _, _, hb⟩ => ⟨_, _, _, he, hb⟩
 ·exact (Any.strconv_Atoi_range Tryd.laysC172 s hz hc _ w h2 (Or.inr ⟨_, _, rfl⟩)).mono fun e w' ⟨N, he, _, _, hb⟩ => ⟨_, _, _, he, hb⟩
set_option maxHeartbeats 1000000 in
set_option maxRecDepth 100000 in
theorem impl_ParseInt.calls (a0 : ByteArray) (r1 : Int) (r2 : Bool) (w : World) (hG : GE w) (h : impl_ParseInt.f a0 = some (r1, r2)) :
  Calls Tryd.prog 102 #[.string a0] w fun e w' => e = .returned (.tuple #[.int .i64 r1, .bool r2]) ∧ Below w.heap.size w w' := by
 (unfold impl_ParseInt.f at h); (split at h)
 case isFalse => cases h
 (rename_i hz); (have HZ := Aside0.mk hz); clear hz; (have h := Option.some.inj h); (have HG := Aside0.mk hG); clear hG; (have HB := Aside0.mk (Below.refl w.heap.size w)); (by_cases hok : ∃ v, Lib.atoiAll a0.data.toList = .ok v)
 case neg =>
  have hbad : ∀ v, Lib.atoiAll a0.data.toList ≠ .ok v := fun v hv => hok ⟨v, hv⟩
  have hr : parseE a0 = (0, false) := by
   (unfold parseE); (split); (· (rename_i v hv; exact absurd hv (hbad v))); (· rfl)
  (rw [hr] at h); (injection h with h1 h2); (subst h1; subst h2); (have HBAD := Aside0.mk hbad); clear hr hbad hok; (go_enter Tryd.func102, Tryd.ntmps102); (go_wp2_with ((with_reducible refine gate_callee (f := 118) rfl ?_); refine gL (some 8) Tryd.func118 #[.string a0] ?_; (with_reducible refine (atoi_bad HZ.out HBAD.out _ HG.out).mono ?_); rintro e w1 ⟨n, t, v, rfl, hb⟩; refine ⟨_, rfl, ?_⟩; have n0_ := Aside0.mk (sI hb HB); clear HB hb; have HB := n0_; clear n0_)); (go_ret2); (exact ⟨rfl, eI HB⟩)
 (obtain ⟨v, hv⟩ := hok); (have hbd := Lib.atoiAll_bounds hv); (have hI : strconv_Itoa.f v = some ⟨(Lib.itoa v).toArray⟩ := by unfold strconv_Itoa.f; rw [if_pos hbd])
 have hW : impl_within.f v (-999999) 999999 = some (decide (-999999 ≤ v ∧ v ≤ 999999)) := by
  (unfold impl_within.f); (by_cases h1 : v ≥ -999999); (· (rw [if_pos h1]; congr 1; rw [decide_eq_decide]; omega)); (· (rw [if_neg h1, decide_eq_false (fun hh => h1 hh.1)]))
 (have HI := Aside0.mk hI); (have HV := Aside0.mk hv); (unfold parseE at h); (rw [hv] at h); (simp only at h); (by_cases c1 : -999999 ≤ v ∧ v ≤ 999999)
 case neg =>
  (rw [if_neg (fun hh => c1 hh.1)] at h); (injection h with h1 h2); (subst h1; subst h2); (rw [decide_eq_false c1] at hW); (have HWI := Aside0.mk hW); clear hv hI hW c1 hbd; (go_enter Tryd.func102, Tryd.ntmps102); (go_wp2_with (first | ((with_reducible refine gate_callee (f := 118) rfl ?_); refine gL (some 8) Tryd.func118 #[.string a0] ?_; (with_reducible refine (atoi_ok_below HZ.out HV.out _).mono ?_); rintro e w1 ⟨rfl, hb⟩; refine ⟨_, rfl, ?_⟩; have n0_ := Aside0.mk (sI hb HB); clear HB hb; have HB := n0_; clear n0_) | ((with_reducible refine gate_callee (f := 104) rfl ?_); refine gate_guard (by first | rfl | kernel_rfl) ?_; refine gL (some 15) Tryd.func104 #[.int .i64 v, .int .i64 (-999999), .int .i64 999999] ?_; (with_reducible refine (impl_within.calls _ _ _ _ _ HWI.out).mono ?_); rintro e w' ⟨rfl, ⟨nd, rfl⟩⟩; refine ⟨_, rfl, ?_⟩))); (go_ret2); (exact ⟨rfl, eI HB⟩)
 (rw [decide_eq_true c1] at hW); (have HWI := Aside0.mk hW); (by_cases c2 : Lib.itoa v = a0.data.toList); (· (rw [if_pos ⟨c1, c2⟩] at h); (injection h with h1 h2); (subst h1; subst h2); (have c3 : (⟨(Lib.itoa v).toArray⟩ : ByteArray) = a0 := by rw [c2]); (rw [c3] at hI); (have HI := Aside0.mk hI); clear hv hI hW c1 c2 c3 hbd; (go_enter Tryd.func102, Tryd.ntmps102); (go_wp2_with (first | ((with_reducible refine gate_callee (f := 118) rfl ?_); refine gL (some 8) Tryd.func118 #[.string a0] ?_; (with_reducible refine (atoi_ok_below HZ.out HV.out _).mono ?_); rintro e w1 ⟨rfl, hb⟩; refine ⟨_, rfl, ?_⟩; have n0_ := Aside0.mk (sI hb HB); clear HB hb; have HB := n0_; clear n0_) | ((with_reducible refine gate_callee (f := 104) rfl ?_); refine gate_guard (by first | rfl | kernel_rfl) ?_; refine gL (some 15) Tryd.func104 #[.int .i64 v, .int .i64 (-999999), .int .i64 999999] ?_; (with_reducible refine (impl_within.calls _ _ _ _ _ HWI.out).mono ?_); rintro e w' ⟨rfl, ⟨nd, rfl⟩⟩; refine ⟨_, rfl, ?_⟩) | ((with_reducible refine gate_callee (f := 85) rfl ?_); refine gate_guard (by first | rfl | kernel_rfl) ?_; refine gL (some 20) Tryd.func85 #[.int .i64 v] ?_; (with_reducible refine (strconv_Itoa.calls _ _ _ (GT.below HG.out.gt (eI HB)) HI.out).mono ?_); rintro e w2 ⟨rfl, hb⟩; refine ⟨_, rfl, ?_⟩; have n0_ := Aside0.mk (sI hb HB); clear HB hb; have HB := n0_; clear n0_))); (go_ret2); (exact ⟨rfl, eI HB⟩))
 ·rw [if_neg (fun hh => c2 hh.2)] at h
  (injection h with h1 h2); (subst h1; subst h2)
  have c3 : ((⟨(Lib.itoa v).toArray⟩ : ByteArray).toList != a0.toList) = true := by
   (rw [bne_iff_ne]); intro he; (rw [Lib.toList_data, Lib.toList_data] at he); (exact c2 (by simpa using he))
  have c4 : (Lib.itoa v == a0.toList) = false := by
   (rw [beq_eq_false_iff_ne]); intro he; (rw [Lib.toList_data] at he); (exact c2 he)
  clear hv hI hW c1 c2 hbd; (go_enter Tryd.func102, Tryd.ntmps102); (go_wp2_with (first | ((with_reducible refine gate_callee (f := 118) rfl ?_); refine gL (some 8) Tryd.func118 #[.string a0] ?_; (with_reducible refine (atoi_ok_below HZ.out HV.out _).mono ?_); rintro e w1 ⟨rfl, hb⟩; refine ⟨_, rfl, ?_⟩; have n0_ := Aside0.mk (sI hb HB); clear HB hb; have HB := n0_; clear n0_) | ((with_reducible refine gate_callee (f := 104) rfl ?_); refine gate_guard (by first | rfl | kernel_rfl) ?_; refine gL (some 15) Tryd.func104 #[.int .i64 v, .int .i64 (-999999), .int .i64 999999] ?_; (with_reducible refine (impl_within.calls _ _ _ _ _ HWI.out).mono ?_); rintro e w' ⟨rfl, ⟨nd, rfl⟩⟩; refine ⟨_, rfl, ?_⟩) | ((with_reducible refine gate_callee (f := 85) rfl ?_); refine gate_guard (by first | rfl | kernel_rfl) ?_; refine gL (some 20) Tryd.func85 #[.int .i64 v] ?_; (with_reducible refine (strconv_Itoa.calls _ _ _ (GT.below HG.out.gt (eI HB)) HI.out).mono ?_); rintro e w2 ⟨rfl, hb⟩; refine ⟨_, rfl, ?_⟩; have n0_ := Aside0.mk (sI hb HB); clear HB hb; have HB := n0_; clear n0_))); (go_ret2); (exact ⟨rfl, eI HB⟩)

end Go.Proofs.YtdogpphfofimeaaDoor.X
namespace Go.Proofs.YtdogpphfofimeaaDoor.X
open Go.RowKit Go.Proofs.YtdogpphfofimeaaDoorW.PrintWords Go.Proofs.YtdogpphfofimeaaDoorW.PrintLast Go.Proofs.YtdogpphfofimeaaDoorW.PrintMore
attribute [local go_sem] max2_int min2_int max_two min_two max_three min_three max_four min_four   -- for this text's walks alone
set_option linter.unusedVariables false
set_option linter.unusedSimpArgs false
attribute [-simp] ByteArray.size_append ByteArray.size_extract
attribute [-go_sem] ByteArray.size_append'

/-! ### impl_Field_isValue: function 94 -/
def impl_Field_isValue.f (k : Nat) (a0_0 : ByteArray) (a0_1 : Int) (a0_2 : Int) (a0_3 : Int) (l0_4 : List ByteArray) (a0_5 : Bool) (a0_6 : ByteArray) (a1 : ByteArray) : Option (Bool) := if a0_1 = 1 then ((impl_ParseInt.f a1).bind fun bt102 => (if bt102.2 = true then ((impl_within.f bt102.1 a0_2 a0_3).bind fun t104 => (some t104)) else (some false))) else (if a0_1 = 2 then ((impl_within.f (a1.size : Int) a0_2 a0_3).bind fun t105 => (some t105)) else (if a0_1 = 3 then ((slices_Contains_string_string.f k l0_4 a1).bind fun t106 => (some t106)) else (if a1.toList = ([121, 101, 115] : List UInt8) then (some true) else (some (a1.toList == ([110, 111] : List UInt8))))))
set_option maxHeartbeats 8000000 in
set_option maxRecDepth 100000 in
theorem impl_Field_isValue.calls (k : Nat) (a0_0 : ByteArray) (a0_1 : Int) (a0_2 : Int) (a0_3 : Int) (A0_4 : Option Addr) (c0_4 : Nat) (l0_4 : List ByteArray) (a0_5 : Bool) (a0_6 : ByteArray) (a1 : ByteArray) (r : Bool) (w : World) (hr0_4 : Kd.C Kd.string w A0_4 l0_4.length l0_4) (hc0_4 : l0_4.length ≤ c0_4) (hG : GE w) (h : impl_Field_isValue.f k a0_0 a0_1 a0_2 a0_3 l0_4 a0_5 a0_6 a1 = some r) :
  Calls Tryd.prog 94 #[.agg #[.string a0_0, .int .i64 a0_1, .int .i64 a0_2, .int .i64 a0_3, .slice A0_4 l0_4.length c0_4, .bool a0_5, .string a0_6], .string a1] w fun e w' => e = .returned (.bool r) ∧ Below w.heap.size w w' := by
 (have hu69 := Tryd.underlying69); (have HR0_4 := Aside0.mk hr0_4); (have HC0_4 := Aside0.mk hc0_4); clear hr0_4 hc0_4; (have HG := Aside0.mk hG); clear hG; (have HB := Aside0.mk (Below.refl w.heap.size w)); (unfold impl_Field_isValue.f at h); (have H := h); clear h; (by_cases c3 : a0_1 = 1)
 ·rw [if_pos c3] at H
  (have c3b0 : (a0_1 == 1) = true := beq_iff_eq.mpr c3); (have c3b1 : (a0_1 != 1) = false := bne_eq_false_iff_eq.mpr c3); clear c3; (replace H := obS H); (obtain ⟨⟨t102, t103⟩, A4, H⟩ := H); (replace H : (if t103 = true then ((impl_within.f t102 a0_2 a0_3).bind fun t104 => (some t104)) else (some false)) = some r := H); (by_cases c5 : t103 = true); (· subst c5; (rw [if_pos rfl] at H); (replace H := obS H); (obtain ⟨t104, A6, H⟩ := H); (obtain rfl := Option.some.inj H); (go_enter Tryd.func94, Tryd.ntmps94); (go_wp2_with (first | ((with_reducible refine gate_dst (N := 2) rfl ?_); refine box_event ?hg (N := 2) ?hd (cs := #[.string a0_0, .int .i64 a0_1, .int .i64 a0_2, .int .i64 a0_3, .slice A0_4 l0_4.length c0_4, .bool a0_5, .string a0_6]) (t := 69) ?hr ?_; (case hd => rfl); (case hg => rfl); (case hr => first | (go_simp; done) | (go_simp; rfl)); intro gb101 hg w7 hbox hb; have hB_ := zI hb HB; have n0_ := Aside0.mk (below_step hB_ hb); have n1_ := Aside0.mk (hbox); have n2_ := Aside0.mk (bx0 hg hB_); have n3_ := n2_; clear HB; have HB := n0_; have BK101 := n1_; have GW101 := n2_; have GE101 := n3_; clear n0_ n1_ n2_ n3_ hB_ hb hbox hg; have hcz8_0 := cz BK101.out 0; have hcz8_1 := cz BK101.out 1; have hcz8_2 := cz BK101.out 2; have hcz8_3 := cz BK101.out 3; have hcz8_4 := cz BK101.out 4; have hcz8_5 := cz BK101.out 5; have hcz8_6 := cz BK101.out 6; have hfz8_0 := blk_frozen BK101.out 0; have hfz8_1 := blk_frozen BK101.out 1; have hfz8_2 := blk_frozen BK101.out 2; have hfz8_3 := blk_frozen BK101.out 3; have hfz8_4 := blk_frozen BK101.out 4; have hfz8_5 := blk_frozen BK101.out 5; have hfz8_6 := blk_frozen BK101.out 6) | ((with_reducible refine gate_callee (f := 102) rfl ?_); refine gL (some 13) Tryd.func102 #[.string a1] ?_; (with_reducible refine (impl_ParseInt.calls a1 t102 true _ ?side1 A4.out).mono ?_); (case side1 => first | exact GE.below HG.out (eI HB) | (repeat (first | exact HG.out | (with_reducible first | apply GE.drewN | apply GE.drew | apply GE.alloc)))); rintro e w9 ⟨rfl, hb⟩; refine ⟨_, rfl, ?_⟩; have n0_ := Aside0.mk (kbI hb BK101); have n1_ := Aside0.mk (sI hb HB); clear BK101 HB; have BK101 := n0_; have HB := n1_; clear n0_ n1_; (try clear hb); (try clear hb2); (try clear hk); (try clear hi); have hcz10_0 := cz BK101.out 0; have hcz10_1 := cz BK101.out 1; have hcz10_2 := cz BK101.out 2; have hcz10_3 := cz BK101.out 3; have hcz10_4 := cz BK101.out 4; have hcz10_5 := cz BK101.out 5; have hcz10_6 := cz BK101.out 6; have hfz10_0 := blk_frozen BK101.out 0; have hfz10_1 := blk_frozen BK101.out 1; have hfz10_2 := blk_frozen BK101.out 2; have hfz10_3 := blk_frozen BK101.out 3; have hfz10_4 := blk_frozen BK101.out 4; have hfz10_5 := blk_frozen BK101.out 5; have hfz10_6 := blk_frozen BK101.out 6) | (go_at_call 104; (with_reducible refine (impl_within.calls t102 a0_2 a0_3 t104 _ A6.out).mono ?_); rintro e w' ⟨rfl, ⟨nd, rfl⟩⟩))); go_ret; (exact ⟨rfl, eI HB⟩))
  ·replace c5 := Bool.eq_false_iff.mpr c5
   subst c5; (rw [if_neg (show ¬ (false = true) by decide)] at H); (obtain rfl := Option.some.inj H); (go_enter Tryd.func94, Tryd.ntmps94); (go_wp2_with (first | ((with_reducible refine gate_dst (N := 2) rfl ?_); refine box_event ?hg (N := 2) ?hd (cs := #[.string a0_0, .int .i64 a0_1, .int .i64 a0_2, .int .i64 a0_3, .slice A0_4 l0_4.length c0_4, .bool a0_5, .string a0_6]) (t := 69) ?hr ?_; (case hd => rfl); (case hg => rfl); (case hr => first | (go_simp; done) | (go_simp; rfl)); intro gb101 hg w11 hbox hb; have hB_ := zI hb HB; have n0_ := Aside0.mk (below_step hB_ hb); have n1_ := Aside0.mk (hbox); have n2_ := Aside0.mk (bx0 hg hB_); have n3_ := n2_; clear HB; have HB := n0_; have BK101 := n1_; have GW101 := n2_; have GE101 := n3_; clear n0_ n1_ n2_ n3_ hB_ hb hbox hg; have hcz12_0 := cz BK101.out 0; have hcz12_1 := cz BK101.out 1; have hcz12_2 := cz BK101.out 2; have hcz12_3 := cz BK101.out 3; have hcz12_4 := cz BK101.out 4; have hcz12_5 := cz BK101.out 5; have hcz12_6 := cz BK101.out 6; have hfz12_0 := blk_frozen BK101.out 0; have hfz12_1 := blk_frozen BK101.out 1; have hfz12_2 := blk_frozen BK101.out 2; have hfz12_3 := blk_frozen BK101.out 3; have hfz12_4 := blk_frozen BK101.out 4; have hfz12_5 := blk_frozen BK101.out 5; have hfz12_6 := blk_frozen BK101.out 6) | ((with_reducible refine gate_callee (f := 102) rfl ?_); refine gL (some 13) Tryd.func102 #[.string a1] ?_; (with_reducible refine (impl_ParseInt.calls a1 t102 false _ ?side1 A4.out).mono ?_); (case side1 => first | exact GE.below HG.out (eI HB) | (repeat (first | exact HG.out | (with_reducible first | apply GE.drewN | apply GE.drew | apply GE.alloc)))); rintro e w13 ⟨rfl, hb⟩; refine ⟨_, rfl, ?_⟩; have n0_ := Aside0.mk (kbI hb BK101); have n1_ := Aside0.mk (sI hb HB); clear BK101 HB; have BK101 := n0_; have HB := n1_; clear n0_ n1_; (try clear hb); (try clear hb2); (try clear hk); (try clear hi)))); go_ret; (exact ⟨rfl, eI HB⟩)
 ·rw [if_neg c3] at H
  (have c3b0 : (a0_1 == 1) = false := beq_eq_false_iff_ne.mpr c3); (have c3b1 : (a0_1 != 1) = true := bne_iff_ne.mpr c3); (by_cases c14 : a0_1 = 2)
  ·rw [if_pos c14] at H
   (have c14b0 : (a0_1 == 2) = true := beq_iff_eq.mpr c14); (have c14b1 : (a0_1 != 2) = false := bne_eq_false_iff_eq.mpr c14); clear c14; (replace H := obS H); (obtain ⟨t105, A15, H⟩ := H); (obtain rfl := Option.some.inj H); (go_enter Tryd.func94, Tryd.ntmps94); (go_wp2_with (first | ((with_reducible refine gate_dst (N := 2) rfl ?_); refine box_event ?hg (N := 2) ?hd (cs := #[.string a0_0, .int .i64 a0_1, .int .i64 a0_2, .int .i64 a0_3, .slice A0_4 l0_4.length c0_4, .bool a0_5, .string a0_6]) (t := 69) ?hr ?_; (case hd => rfl); (case hg => rfl); (case hr => first | (go_simp; done) | (go_simp; rfl)); intro gb101 hg w16 hbox hb; have hB_ := zI hb HB; have n0_ := Aside0.mk (below_step hB_ hb); have n1_ := Aside0.mk (hbox); have n2_ := Aside0.mk (bx0 hg hB_); have n3_ := n2_; clear HB; have HB := n0_; have BK101 := n1_; have GW101 := n2_; have GE101 := n3_; clear n0_ n1_ n2_ n3_ hB_ hb hbox hg; have hcz17_0 := cz BK101.out 0; have hcz17_1 := cz BK101.out 1; have hcz17_2 := cz BK101.out 2; have hcz17_3 := cz BK101.out 3; have hcz17_4 := cz BK101.out 4; have hcz17_5 := cz BK101.out 5; have hcz17_6 := cz BK101.out 6; have hfz17_0 := blk_frozen BK101.out 0; have hfz17_1 := blk_frozen BK101.out 1; have hfz17_2 := blk_frozen BK101.out 2; have hfz17_3 := blk_frozen BK101.out 3; have hfz17_4 := blk_frozen BK101.out 4; have hfz17_5 := blk_frozen BK101.out 5; have hfz17_6 := blk_frozen BK101.out 6) | ((with_reducible refine gate_callee (f := 104) rfl ?_); refine gL (some 33) Tryd.func104 #[.int .i64 (a1.size : Int), .int .i64 a0_2, .int .i64 a0_3] ?_; (with_reducible refine (impl_within.calls (a1.size : Int) a0_2 a0_3 t105 _ A15.out).mono ?_); rintro e w' ⟨rfl, ⟨nd, rfl⟩⟩; refine ⟨_, rfl, ?_⟩))); go_ret; (exact ⟨rfl, eI HB⟩)
  ·rw [if_neg c14] at H
   (have c14b0 : (a0_1 == 2) = false := beq_eq_false_iff_ne.mpr c14); (have c14b1 : (a0_1 != 2) = true := bne_iff_ne.mpr c14); (by_cases c18 : a0_1 = 3)
   ·rw [if_pos c18] at H
    (have c18b0 : (a0_1 == 3) = true := beq_iff_eq.mpr c18); (have c18b1 : (a0_1 != 3) = false := bne_eq_false_iff_eq.mpr c18); clear c18; (replace H := obS H); (obtain ⟨t106, A19, H⟩ := H); (obtain rfl := Option.some.inj H); (go_enter Tryd.func94, Tryd.ntmps94); (go_wp2_with (first | ((with_reducible refine gate_dst (N := 2) rfl ?_); refine box_event ?hg (N := 2) ?hd (cs := #[.string a0_0, .int .i64 a0_1, .int .i64 a0_2, .int .i64 a0_3, .slice A0_4 l0_4.length c0_4, .bool a0_5, .string a0_6]) (t := 69) ?hr ?_; (case hd => rfl); (case hg => rfl); (case hr => first | (go_simp; done) | (go_simp; rfl)); intro gb101 hg w20 hbox hb; have hB_ := zI hb HB; have n0_ := Aside0.mk (below_step hB_ hb); have n1_ := Aside0.mk (hbox); have n2_ := Aside0.mk (bx0 hg hB_); have n3_ := n2_; clear HB; have HB := n0_; have BK101 := n1_; have GW101 := n2_; have GE101 := n3_; clear n0_ n1_ n2_ n3_ hB_ hb hbox hg; have hcz21_0 := cz BK101.out 0; have hcz21_1 := cz BK101.out 1; have hcz21_2 := cz BK101.out 2; have hcz21_3 := cz BK101.out 3; have hcz21_4 := cz BK101.out 4; have hcz21_5 := cz BK101.out 5; have hcz21_6 := cz BK101.out 6; have hfz21_0 := blk_frozen BK101.out 0; have hfz21_1 := blk_frozen BK101.out 1; have hfz21_2 := blk_frozen BK101.out 2; have hfz21_3 := blk_frozen BK101.out 3; have hfz21_4 := blk_frozen BK101.out 4; have hfz21_5 := blk_frozen BK101.out 5; have hfz21_6 := blk_frozen BK101.out 6) | ((with_reducible refine gate_callee (f := 47) rfl ?_); refine gL (some 39) Tryd.func47 #[.slice A0_4 l0_4.length c0_4, .string a1] ?_; (with_reducible refine (slices_Contains_string_string.calls k _ _ l0_4 a1 t106 _ ?side1 ?side2 A19.out).mono ?_); (case side1 => exact Kd.C_below HR0_4.out (eI HB)); (case side2 => exact HC0_4.out); rintro e w' ⟨rfl, ⟨nd, rfl⟩⟩; refine ⟨_, rfl, ?_⟩))); go_ret; (exact ⟨rfl, eI HB⟩)
   ·rw [if_neg c18] at H
    (have c18b0 : (a0_1 == 3) = false := beq_eq_false_iff_ne.mpr c18); (have c18b1 : (a0_1 != 3) = true := bne_iff_ne.mpr c18); (by_cases c22 : a1.toList = ([121, 101, 115] : List UInt8)); (· (rw [if_pos c22] at H); (have c22b0 : (a1.toList == ([121, 101, 115] : List UInt8)) = true := beq_iff_eq.mpr c22); (have c22b1 : (a1.toList != ([121, 101, 115] : List UInt8)) = false := bne_eq_false_iff_eq.mpr c22); clear c22; (obtain rfl := Option.some.inj H); (go_enter Tryd.func94, Tryd.ntmps94); (go_wp2_with (first | ((with_reducible refine gate_dst (N := 2) rfl ?_); refine box_event ?hg (N := 2) ?hd (cs := #[.string a0_0, .int .i64 a0_1, .int .i64 a0_2, .int .i64 a0_3, .slice A0_4 l0_4.length c0_4, .bool a0_5, .string a0_6]) (t := 69) ?hr ?_; (case hd => rfl); (case hg => rfl); (case hr => first | (go_simp; done) | (go_simp; rfl)); intro gb101 hg w23 hbox hb; have hB_ := zI hb HB; have n0_ := Aside0.mk (below_step hB_ hb); have n1_ := Aside0.mk (hbox); have n2_ := Aside0.mk (bx0 hg hB_); have n3_ := n2_; clear HB; have HB := n0_; have BK101 := n1_; have GW101 := n2_; have GE101 := n3_; clear n0_ n1_ n2_ n3_ hB_ hb hbox hg; have hcz24_0 := cz BK101.out 0; have hcz24_1 := cz BK101.out 1; have hcz24_2 := cz BK101.out 2; have hcz24_3 := cz BK101.out 3; have hcz24_4 := cz BK101.out 4; have hcz24_5 := cz BK101.out 5; have hcz24_6 := cz BK101.out 6; have hfz24_0 := blk_frozen BK101.out 0; have hfz24_1 := blk_frozen BK101.out 1; have hfz24_2 := blk_frozen BK101.out 2; have hfz24_3 := blk_frozen BK101.out 3; have hfz24_4 := blk_frozen BK101.out 4; have hfz24_5 := blk_frozen BK101.out 5; have hfz24_6 := blk_frozen BK101.out 6))); go_ret; (exact ⟨rfl, eI HB⟩)); (· (rw [if_neg c22] at H); (have c22b0 : (a1.toList == ([121, 101, 115] : List UInt8)) = false := beq_eq_false_iff_ne.mpr c22); (have c22b1 : (a1.toList != ([121, 101, 115] : List UInt8)) = true := bne_iff_ne.mpr c22); (obtain rfl := Option.some.inj H); (go_enter Tryd.func94, Tryd.ntmps94); (go_wp2_with (first | ((with_reducible refine gate_dst (N := 2) rfl ?_); refine box_event ?hg (N := 2) ?hd (cs := #[.string a0_0, .int .i64 a0_1, .int .i64 a0_2, .int .i64 a0_3, .slice A0_4 l0_4.length c0_4, .bool a0_5, .string a0_6]) (t := 69) ?hr ?_; (case hd => rfl); (case hg => rfl); (case hr => first | (go_simp; done) | (go_simp; rfl)); intro gb101 hg w25 hbox hb; have hB_ := zI hb HB; have n0_ := Aside0.mk (below_step hB_ hb); have n1_ := Aside0.mk (hbox); have n2_ := Aside0.mk (bx0 hg hB_); have n3_ := n2_; clear HB; have HB := n0_; have BK101 := n1_; have GW101 := n2_; have GE101 := n3_; clear n0_ n1_ n2_ n3_ hB_ hb hbox hg; have hcz26_0 := cz BK101.out 0; have hcz26_1 := cz BK101.out 1; have hcz26_2 := cz BK101.out 2; have hcz26_3 := cz BK101.out 3; have hcz26_4 := cz BK101.out 4; have hcz26_5 := cz BK101.out 5; have hcz26_6 := cz BK101.out 6; have hfz26_0 := blk_frozen BK101.out 0; have hfz26_1 := blk_frozen BK101.out 1; have hfz26_2 := blk_frozen BK101.out 2; have hfz26_3 := blk_frozen BK101.out 3; have hfz26_4 := blk_frozen BK101.out 4; have hfz26_5 := blk_frozen BK101.out 5; have hfz26_6 := blk_frozen BK101.out 6))); go_ret; (exact ⟨rfl, eI HB⟩))
/-! ### impl_states: function 56 -/
mutual
def impl_states.l0 : Nat → List (S69) → List (S58) → List Int → List Bool → Int → Int → Option (List Int)
 | 0, _, _, _, _, _, _ => none
 | k + 1, x0, x1, x5, x15, x16, x17 => if x17 < x16 then (if 0 ≤ x17 then (if x17 < (x15.length : Int) then (if x17 < (x0.length : Int) then ((impl_answerOf.f x1 ((rd_T69 x0 x17).f0)).bind fun bt110 => (if rdOf false x15 x17 = true then (impl_states.j1 k x0 x1 x5 (rdOf false x15 x17) bt110.1 bt110.2 0 x15 x16 x17 false ((rd_T69 x0 x17).f0) ((rd_T69 x0 x17).f1) ((rd_T69 x0 x17).f2) ((rd_T69 x0 x17).f3) ((rd_T69 x0 x17).f4) ((rd_T69 x0 x17).f5) ((rd_T69 x0 x17).f6)) else (impl_states.j1 k x0 x1 x5 (rdOf false x15 x17) bt110.1 bt110.2 0 x15 x16 x17 bt110.2 ((rd_T69 x0 x17).f0) ((rd_T69 x0 x17).f1) ((rd_T69 x0 x17).f2) ((rd_T69 x0 x17).f3) ((rd_T69 x0 x17).f4) ((rd_T69 x0 x17).f5) ((rd_T69 x0 x17).f6)))) else (none)) else (none)) else (none)) else (some x5)
def impl_states.j1 : Nat → List (S69) → List (S58) → List Int → Bool → ByteArray → Bool → Int → List Bool → Int → Int → Bool → ByteArray → Int → Int → Int → List ByteArray → Bool → ByteArray → Option (List Int)
 | 0, _, _, _, _, _, _, _, _, _, _, _, _, _, _, _, _, _, _ => none
 | k + 1, x0, x1, x5, x7, x9, x10, x11, x15, x16, x17, x33, x110000, x110001, x110002, x110003, x110004, x110005, x110006 => if x33 = true then (if x5.length < 17592186044416 then (impl_states.l0 k x0 x1 (x5 ++ [3]) x15 x16 (wrap64 (x17 + 1))) else (none)) else (if x7 = true then (if x110005 = true then (impl_states.j2 k x0 x1 x5 x7 x9 x10 x11 x15 x16 x17 (!x10) x110000 x110001 x110002 x110003 x110004 x110005 x110006) else (impl_states.j2 k x0 x1 x5 x7 x9 x10 x11 x15 x16 x17 false x110000 x110001 x110002 x110003 x110004 x110005 x110006)) else (impl_states.j2 k x0 x1 x5 x7 x9 x10 x11 x15 x16 x17 false x110000 x110001 x110002 x110003 x110004 x110005 x110006))
def impl_states.j2 : Nat → List (S69) → List (S58) → List Int → Bool → ByteArray → Bool → Int → List Bool → Int → Int → Bool → ByteArray → Int → Int → Int → List ByteArray → Bool → ByteArray → Option (List Int)
 | 0, _, _, _, _, _, _, _, _, _, _, _, _, _, _, _, _, _, _ => none
 | k + 1, x0, x1, x5, x7, x9, x10, x11, x15, x16, x17, x39, x110000, x110001, x110002, x110003, x110004, x110005, x110006 => if x39 = true then (if x5.length < 17592186044416 then (impl_states.l0 k x0 x1 (x5 ++ [1]) x15 x16 (wrap64 (x17 + 1))) else (none)) else (if x7 = true then (if x10 = true then ((impl_Field_isValue.f k x110000 x110001 x110002 x110003 x110004 x110005 x110006 x9).bind fun t118 => (if t118 = true then (if x5.length < 17592186044416 then (impl_states.l0 k x0 x1 (x5 ++ [x11]) x15 x16 (wrap64 (x17 + 1))) else (none)) else (if x5.length < 17592186044416 then (impl_states.l0 k x0 x1 (x5 ++ [2]) x15 x16 (wrap64 (x17 + 1))) else (none)))) else (if x5.length < 17592186044416 then (impl_states.l0 k x0 x1 (x5 ++ [x11]) x15 x16 (wrap64 (x17 + 1))) else (none))) else (if x5.length < 17592186044416 then (impl_states.l0 k x0 x1 (x5 ++ [x11]) x15 x16 (wrap64 (x17 + 1))) else (none)))
end
def impl_states.f (k : Nat) (l0 : List (S69)) (l1 : List (S58)) : Option (List Int) := (impl_visible.f k l0 l1).bind fun t104 => (impl_states.l0 k l0 l1 (([] : List Int)) t104 (t104.length : Int) 0)
set_option maxHeartbeats 8000000 in
set_option maxRecDepth 100000 in
theorem impl_states.calls (k : Nat) (A0 : Option Addr) (c0 : Nat) (l0 : List (S69)) (A1 : Option Addr) (c1 : Nat) (l1 : List (S58)) (r : List Int) (w : World) (hr0 : Kd.C k69 w A0 l0.length l0) (hc0 : l0.length ≤ c0) (hr1 : Kd.C k58 w A1 l1.length l1) (hc1 : l1.length ≤ c1) (hG : GE w) (h : impl_states.f k l0 l1 = some r) :
  Calls Tryd.prog 56 #[.slice A0 l0.length c0, .slice A1 l1.length c1] w fun e w' => ∃ v0_ : Value, e = .returned (v0_) ∧ Kd.R (Kd.int .i64) 3 w' w.heap.size (fun _ => True) v0_ r ∧ Below w.heap.size w w' := by
 (have hu69 := Tryd.underlying69); (have HR0 := Aside0.mk hr0); (have HC0 := Aside0.mk hc0); clear hr0 hc0; (have HR1 := Aside0.mk hr1); (have HC1 := Aside0.mk hc1); clear hr1 hc1; (have HG := Aside0.mk hG); clear hG; (have HB := Aside0.mk (Below.refl w.heap.size w)); (have H : ((impl_visible.f k l0 l1).bind fun t104 => (impl_states.l0 k l0 l1 (([] : List Int)) t104 (t104.length : Int) 0)) = some r := h); clear h; (obtain ⟨y101, hy101⟩ : ∃ y_ : List Int, y_ = (([] : List Int)) := ⟨_, rfl⟩); (replace H : ((impl_visible.f k l0 l1).bind fun t104 => (impl_states.l0 k l0 l1 y101 t104 (t104.length : Int) 0)) = some r := by first | (rw [hy101]; with_reducible exact H) | (have H2_ := (Option.bind_some _ _).symm.trans H; rw [hy101]; with_reducible exact H2_) | (have H2_ := (Option.bind_some _ _).symm.trans H; with_reducible exact H2_) | with_reducible exact H | (rw [hy101]; exact H) | exact H); (have Ny101 := Aside0.mk hy101); clear hy101; (replace H := Option.bind_eq_some_iff.mp H); (obtain ⟨t104, A30, H⟩ := H); (have A3 := Aside0.mk A30); clear A30; (have H' := Aside0.mk H); clear H; (go_enter Tryd.func56, Tryd.ntmps56); (go_wp2_with (first | ((with_reducible refine gate_dst (N := 12) rfl ?_); refine Kd.R_lit (Kd.int .i64) _ 3 ?hg (N := 12) ?hd (xs := ([] : List Int)) (inner := []) (ok := fun _ => True) (okp := fun _ => True) ?hr ?hp (fun _ hk => hk) trivial (Below.refl _ _) (Nat.le_refl _) (by simp) ?_; (case hd => rfl); (case hg => rfl); (case hr => first | (go_simp; done) | (go_simp; rfl)); (case hp => exact (Reps.none _ _)); intro v102 w4 ho5 hb hg_ hnew_; clear hg_ hnew_; (first | rw [← Ny101.out] at ho5 | (simp only [Int.reduceToNat] at ho5; rw [← Ny101.out] at ho5)); have hB_ := bz (by repeat (first | (with_reducible first | exact HB.out | apply bA | apply bN | apply bD) | exact HB.out)) hb; have n0_ := Aside0.mk (Kd.R_lower ho5 (below_size hB_)); have n1_ := Aside0.mk (below_step hB_ hb); clear HB; have HO103 := n0_; have HB := n1_; clear n0_ n1_ hB_ hb ho5) | ((with_reducible refine gate_callee (f := 64) rfl ?_); refine gL (some 15) Tryd.func64 #[.slice A0 l0.length c0, .slice A1 l1.length c1] ?_; (with_reducible refine (impl_visible.calls k _ _ l0 _ _ l1 t104 _ ?side1 ?side2 ?side3 ?side4 A3.out).mono ?_); (case side1 => repeat (first | exact (Kd.C_below HR0.out HB.out) | (with_reducible first | refine cA ?_ _ | refine cN ?_ _ | refine cD ?_))); (case side2 => exact HC0.out); (case side3 => repeat (first | exact (Kd.C_below HR1.out HB.out) | (with_reducible first | refine cA ?_ _ | refine cN ?_ _ | refine cD ?_))); (case side4 => exact HC1.out); rintro e w6 ⟨v105, rfl, ho0, hb⟩; refine ⟨_, rfl, ?_⟩; have n0_ := Aside0.mk (Kd.R_below (by (with_reducible repeat (first | apply rA | apply rN | apply rD)); exact HO103.out) hb); have n1_ := Aside0.mk (Kd.R_lower ho0 (below_size (by repeat (first | (with_reducible first | exact HB.out | apply bA | apply bN | apply bD) | exact HB.out)))); have n2_ := Aside0.mk (below_step (by repeat (first | (with_reducible first | exact HB.out | apply bA | apply bN | apply bD) | exact HB.out)) hb); clear HO103 HB; have HO103 := n0_; have HO106 := n1_; have HB := n2_; clear n0_ n1_ n2_; (try clear hb); (try clear hb2); (try clear hk); (try clear hi); (try clear ho0); obtain ⟨Ao7, co7, eo7⟩ := Kd.R_slice HO106.out; subst eo7))); (go_loopg [5, 17] k (fun kq v5 v17 w' => ∃ (x5_1 : List Int) (x17_1 : Int), v17 = .int .i64 x17_1 ∧ Aside0 (impl_states.l0 kq l0 l1 x5_1 t104 (t104.length : Int) x17_1 = some r) ∧ Aside0 (kq ≤ k) ∧ Aside0 (Kd.R (Kd.int .i64) 3 w' w.heap.size (fun _ => True) v5 x5_1) ∧ Aside0 (Kd.R Kd.bool 4 w' w.heap.size (fun _ => True) (.slice Ao7 t104.length co7) t104) ∧ Aside0 (Below w.heap.size w w')))
 case atStart => exact ⟨(y101), (0), (by first | rfl | (simp; done) | (simp [*]; done)), H', ⟨Nat.le_refl _⟩, ⟨by (with_reducible repeat (first | apply rA | apply rN | apply rD)); exact HO103.out⟩, ⟨by (with_reducible repeat (first | apply rA | apply rN | apply rD)); exact HO106.out⟩, ⟨by repeat (first | (with_reducible first | exact HB.out | apply bA | apply bN | apply bD) | exact HB.out)⟩⟩
 case round =>
  (clear H'); (try clear c1); (try clear p2); (try clear c5); (try clear c6); (obtain ⟨x5_1, x17_1, rfl, HA, HK1, HO_5, HO_15, HB⟩ := hrel)
  cases gk with
  | zero => exact absurd HA.out (by simp [impl_states.l0])
  | succ k1 =>
   (have H := HA.out); clear HA; (simp only [impl_states.l0] at H); (by_cases c8 : x17_1 < (t104.length : Int))
   ·rw [if_pos c8] at H
    (have c8b0 : decide (x17_1 < (t104.length : Int)) = true := decide_eq_true c8); clear c8; (by_cases c9 : 0 ≤ x17_1)
    ·rw [if_pos c9] at H
     (have c9b0 : decide (0 ≤ x17_1) = true := decide_eq_true c9); clear c9; (by_cases c10 : x17_1 < (t104.length : Int))
     ·rw [if_pos c10] at H
      (have c10b0 : decide (x17_1 < (t104.length : Int)) = true := decide_eq_true c10); clear c10; (by_cases c11 : x17_1 < (l0.length : Int))
      ·rw [if_pos c11] at H
       (have c11b0 : decide (x17_1 < (l0.length : Int)) = true := decide_eq_true c11); clear c11; (replace H := Option.bind_eq_some_iff.mp H); (obtain ⟨⟨t110, t111⟩, A120, H⟩ := H); (replace H : (if rdOf false t104 x17_1 = true then (impl_states.j1 k1 l0 l1 x5_1 (rdOf false t104 x17_1) t110 t111 0 t104 (t104.length : Int) x17_1 false ((rd_T69 l0 x17_1).f0) ((rd_T69 l0 x17_1).f1) ((rd_T69 l0 x17_1).f2) ((rd_T69 l0 x17_1).f3) ((rd_T69 l0 x17_1).f4) ((rd_T69 l0 x17_1).f5) ((rd_T69 l0 x17_1).f6)) else (impl_states.j1 k1 l0 l1 x5_1 (rdOf false t104 x17_1) t110 t111 0 t104 (t104.length : Int) x17_1 t111 ((rd_T69 l0 x17_1).f0) ((rd_T69 l0 x17_1).f1) ((rd_T69 l0 x17_1).f2) ((rd_T69 l0 x17_1).f3) ((rd_T69 l0 x17_1).f4) ((rd_T69 l0 x17_1).f5) ((rd_T69 l0 x17_1).f6))) = some r := H); (have A12 := Aside0.mk A120); clear A120; (have HC13 := Aside0.mk H); clear H; (have p107 : 0 ≤ (x17_1 : Int) := of_decide_eq_true (by first | (with_reducible assumption) | assumption)); (have q107 : x17_1 < (t104.length : Int) := of_decide_eq_true (by first | (with_reducible assumption) | assumption)); (obtain ⟨ad107, e107, hx107_0⟩ := Kd.at_bool (Kd.R_reads' HO_15.out).2.2 x17_1 p107 q107); (obtain ⟨bz107, hbz107⟩ : ∃ b_ : Bool, b_ = (rdOf false t104 x17_1) := ⟨_, rfl⟩); (rw [← hbz107] at hx107_0 HC13); (have HZ107 := Aside0.mk hbz107); clear hbz107; (cases e107); (replace p107 := eq_true p107); (replace q107 := eq_true q107); (have p108 : 0 ≤ (x17_1 : Int) := of_decide_eq_true (by first | (with_reducible assumption) | assumption)); (have q108 : x17_1 < (l0.length : Int) := of_decide_eq_true (by first | (with_reducible assumption) | assumption)); (obtain ⟨ad108, A108_4, c108_4, e108, hx108_0, hx108_1, hx108_2, hx108_3, hx108_4, hx108_5, hx108_6, hl108_4, hi108_4⟩ := at_T69 HR0.out x17_1 p108 q108); (cases e108); (replace hx108_0 := (HB.out.cell (bltc w _ hx108_0)).trans hx108_0); (replace hx108_1 := (HB.out.cell (bltc w _ hx108_1)).trans hx108_1); (replace hx108_2 := (HB.out.cell (bltc w _ hx108_2)).trans hx108_2); (replace hx108_3 := (HB.out.cell (bltc w _ hx108_3)).trans hx108_3); (replace hx108_4 := (HB.out.cell (bltc w _ hx108_4)).trans hx108_4); (replace hx108_5 := (HB.out.cell (bltc w _ hx108_5)).trans hx108_5); (replace hx108_6 := (HB.out.cell (bltc w _ hx108_6)).trans hx108_6); (have HR108_4 := Aside0.mk hi108_4); (have HC108_4 := Aside0.mk hl108_4); clear hi108_4 hl108_4; (replace p108 := eq_true p108); (replace q108 := eq_true q108)
       go_upto_region 8 with (first | ((with_reducible refine gate_dst (N := 8) rfl ?_); refine box_event ?hg (N := 8) ?hd (cs := #[.string (⟨#[]⟩ : ByteArray), .int .i64 0, .int .i64 0, .int .i64 0, .slice none 0 0, .bool false, .string (⟨#[]⟩ : ByteArray)]) (t := 69) ?hr ?_; (case hd => rfl); (case hg => rfl); (case hr => first | (go_simp; done) | (go_simp; rfl)); intro gb109 hg w14 hbox hb; have n0_ := Aside0.mk (Kd.R_below (by (with_reducible repeat (first | apply rA | apply rN | apply rD)); exact HO_5.out) hb); have n1_ := Aside0.mk (Kd.R_below (by (with_reducible repeat (first | apply rA | apply rN | apply rD)); exact HO_15.out) hb); have hB_ := bz (by repeat (first | (with_reducible first | exact HB.out | apply bA | apply bN | apply bD) | exact HB.out)) hb; have n2_ := Aside0.mk (below_step hB_ hb); have n3_ := Aside0.mk (hbox); have n4_ := Aside0.mk ((by rw [hg]; exact (below_size hB_) : w.heap.size ≤ gb109)); have n5_ := n4_; clear HO_5 HO_15 HB; have HO_5 := n0_; have HO_15 := n1_; have HB := n2_; have BK109 := n3_; have GW109 := n4_; have GE109 := n5_; clear n0_ n1_ n2_ n3_ n4_ n5_ hB_ hb hbox hg; have hcz15_0 := cz BK109.out 0; have hcz15_1 := cz BK109.out 1; have hcz15_2 := cz BK109.out 2; have hcz15_3 := cz BK109.out 3; have hcz15_4 := cz BK109.out 4; have hcz15_5 := cz BK109.out 5; have hcz15_6 := cz BK109.out 6; have hfz15_0 := blk_frozen BK109.out 0; have hfz15_1 := blk_frozen BK109.out 1; have hfz15_2 := blk_frozen BK109.out 2; have hfz15_3 := blk_frozen BK109.out 3; have hfz15_4 := blk_frozen BK109.out 4; have hfz15_5 := blk_frozen BK109.out 5; have hfz15_6 := blk_frozen BK109.out 6) | ((with_reducible refine gate_callee (f := 70) rfl ?_); refine gL (some 30) Tryd.func70 #[.slice A1 l1.length c1, .string ((rd_T69 l0 x17_1).f0)] ?_; (with_reducible refine (impl_answerOf.calls _ _ l1 ((rd_T69 l0 x17_1).f0) t110 t111 _ ?side1 ?side2 A12.out).mono ?_); (case side1 => exact Kd.C_below HR1.out (by repeat (first | (with_reducible first | exact HB.out | apply bA | apply bN | apply bD | refine below_set ?_ GE109.out) | exact HB.out))); (case side2 => exact HC1.out); rintro e w16 ⟨rfl, hb⟩; refine ⟨_, rfl, ?_⟩; have n0_ := Aside0.mk (Kd.R_below (by (with_reducible repeat (first | apply rA | apply rN | apply rD)); exact (Kd.R_mono (Kd.R_far (p := ⟨gb109, 6, none⟩) (Kd.R_far (p := ⟨gb109, 5, none⟩) (Kd.R_far (p := ⟨gb109, 4, none⟩) (Kd.R_far (p := ⟨gb109, 3, none⟩) (Kd.R_far (p := ⟨gb109, 2, none⟩) (Kd.R_far (p := ⟨gb109, 1, none⟩) (Kd.R_far (p := ⟨gb109, 0, none⟩) (Kd.R_types HO_5.out BK109.out (by decide)) (fun _ hk => hk.2) (.string ((rd_T69 l0 x17_1).f0))) (fun _ hk => hk.2) (.int .i64 ((rd_T69 l0 x17_1).f1))) (fun _ hk => hk.2) (.int .i64 ((rd_T69 l0 x17_1).f2))) (fun _ hk => hk.2) (.int .i64 ((rd_T69 l0 x17_1).f3))) (fun _ hk => hk.2) (.slice A108_4 ((rd_T69 l0 x17_1).f4).length c108_4)) (fun _ hk => hk.2) (.bool ((rd_T69 l0 x17_1).f5))) (fun _ hk => hk.2) (.string ((rd_T69 l0 x17_1).f6))) (fun _ h_ => h_.1))) hb); have n1_ := Aside0.mk (Kd.R_below (by (with_reducible repeat (first | apply rA | apply rN | apply rD)); exact (Kd.R_mono (Kd.R_far (p := ⟨gb109, 6, none⟩) (Kd.R_far (p := ⟨gb109, 5, none⟩) (Kd.R_far (p := ⟨gb109, 4, none⟩) (Kd.R_far (p := ⟨gb109, 3, none⟩) (Kd.R_far (p := ⟨gb109, 2, none⟩) (Kd.R_far (p := ⟨gb109, 1, none⟩) (Kd.R_far (p := ⟨gb109, 0, none⟩) (Kd.R_types HO_15.out BK109.out (by decide)) (fun _ hk => hk.2) (.string ((rd_T69 l0 x17_1).f0))) (fun _ hk => hk.2) (.int .i64 ((rd_T69 l0 x17_1).f1))) (fun _ hk => hk.2) (.int .i64 ((rd_T69 l0 x17_1).f2))) (fun _ hk => hk.2) (.int .i64 ((rd_T69 l0 x17_1).f3))) (fun _ hk => hk.2) (.slice A108_4 ((rd_T69 l0 x17_1).f4).length c108_4)) (fun _ hk => hk.2) (.bool ((rd_T69 l0 x17_1).f5))) (fun _ hk => hk.2) (.string ((rd_T69 l0 x17_1).f6))) (fun _ h_ => h_.1))) hb); have n2_ := Aside0.mk (blk_below (g := gb109) (o := .cells #[.string ((rd_T69 l0 x17_1).f0), .int .i64 ((rd_T69 l0 x17_1).f1), .int .i64 ((rd_T69 l0 x17_1).f2), .int .i64 ((rd_T69 l0 x17_1).f3), .slice A108_4 ((rd_T69 l0 x17_1).f4).length c108_4, .bool ((rd_T69 l0 x17_1).f5), .string ((rd_T69 l0 x17_1).f6)] 69 (0, 0)) (by (with_reducible repeat (first | refine kN ?_ _ | refine kD ?_ | refine kA ?_ _)); refine blk_put (cs := #[.string ((rd_T69 l0 x17_1).f0), .int .i64 ((rd_T69 l0 x17_1).f1), .int .i64 ((rd_T69 l0 x17_1).f2), .int .i64 ((rd_T69 l0 x17_1).f3), .slice A108_4 ((rd_T69 l0 x17_1).f4).length c108_4, .bool ((rd_T69 l0 x17_1).f5), .string (⟨#[]⟩ : ByteArray)]) ?_ 6 _ rfl; (with_reducible repeat (first | refine kN ?_ _ | refine kD ?_ | refine kA ?_ _)); refine blk_put (cs := #[.string ((rd_T69 l0 x17_1).f0), .int .i64 ((rd_T69 l0 x17_1).f1), .int .i64 ((rd_T69 l0 x17_1).f2), .int .i64 ((rd_T69 l0 x17_1).f3), .slice A108_4 ((rd_T69 l0 x17_1).f4).length c108_4, .bool false, .string (⟨#[]⟩ : ByteArray)]) ?_ 5 _ rfl; (with_reducible repeat (first | refine kN ?_ _ | refine kD ?_ | refine kA ?_ _)); refine blk_put (cs := #[.string ((rd_T69 l0 x17_1).f0), .int .i64 ((rd_T69 l0 x17_1).f1), .int .i64 ((rd_T69 l0 x17_1).f2), .int .i64 ((rd_T69 l0 x17_1).f3), .slice none 0 0, .bool false, .string (⟨#[]⟩ : ByteArray)]) ?_ 4 _ rfl; (with_reducible repeat (first | refine kN ?_ _ | refine kD ?_ | refine kA ?_ _)); refine blk_put (cs := #[.string ((rd_T69 l0 x17_1).f0), .int .i64 ((rd_T69 l0 x17_1).f1), .int .i64 ((rd_T69 l0 x17_1).f2), .int .i64 0, .slice none 0 0, .bool false, .string (⟨#[]⟩ : ByteArray)]) ?_ 3 _ rfl; (with_reducible repeat (first | refine kN ?_ _ | refine kD ?_ | refine kA ?_ _)); refine blk_put (cs := #[.string ((rd_T69 l0 x17_1).f0), .int .i64 ((rd_T69 l0 x17_1).f1), .int .i64 0, .int .i64 0, .slice none 0 0, .bool false, .string (⟨#[]⟩ : ByteArray)]) ?_ 2 _ rfl; (with_reducible repeat (first | refine kN ?_ _ | refine kD ?_ | refine kA ?_ _)); refine blk_put (cs := #[.string ((rd_T69 l0 x17_1).f0), .int .i64 0, .int .i64 0, .int .i64 0, .slice none 0 0, .bool false, .string (⟨#[]⟩ : ByteArray)]) ?_ 1 _ rfl; (with_reducible repeat (first | refine kN ?_ _ | refine kD ?_ | refine kA ?_ _)); refine blk_put (cs := #[.string (⟨#[]⟩ : ByteArray), .int .i64 0, .int .i64 0, .int .i64 0, .slice none 0 0, .bool false, .string (⟨#[]⟩ : ByteArray)]) ?_ 0 _ rfl; (with_reducible repeat (first | refine kN ?_ _ | refine kD ?_ | refine kA ?_ _)); exact BK109.out) hb); have n3_ := Aside0.mk (below_step (by repeat (first | (with_reducible first | exact HB.out | apply bA | apply bN | apply bD | refine below_set ?_ GE109.out) | exact HB.out)) hb); clear HO_5 HO_15 BK109 HB; have HO_5 := n0_; have HO_15 := n1_; have BK109 := n2_; have HB := n3_; clear n0_ n1_ n2_ n3_; (try clear hb); (try clear hb2); (try clear hk); (try clear hi)))
       ((try simp only [Act.put, aS1, aS2, aS3])); (go_cut [33] (fun v33 wc => ∃ (kq : Nat) (x33_12 : Bool), v33 = .bool x33_12 ∧ Aside0 (impl_states.j1 kq l0 l1 x5_1 bz107 t110 t111 0 t104 (t104.length : Int) x17_1 x33_12 ((rd_T69 l0 x17_1).f0) ((rd_T69 l0 x17_1).f1) ((rd_T69 l0 x17_1).f2) ((rd_T69 l0 x17_1).f3) ((rd_T69 l0 x17_1).f4) ((rd_T69 l0 x17_1).f5) ((rd_T69 l0 x17_1).f6) = some r) ∧ Aside0 (kq ≤ k1) ∧ Aside0 (Kd.R (Kd.int .i64) 3 wc w.heap.size (fun _ => True) u5 x5_1) ∧ Aside0 (Kd.R Kd.bool 4 wc w.heap.size (fun _ => True) (.slice (some ad107) t104.length co7) t104) ∧ Aside0 (wc.heap[gb109]? = some (.cells #[.string ((rd_T69 l0 x17_1).f0), .int .i64 ((rd_T69 l0 x17_1).f1), .int .i64 ((rd_T69 l0 x17_1).f2), .int .i64 ((rd_T69 l0 x17_1).f3), (.slice A108_4 ((rd_T69 l0 x17_1).f4).length c108_4), .bool ((rd_T69 l0 x17_1).f5), .string ((rd_T69 l0 x17_1).f6)] 69 (0, 0))) ∧ Aside0 (Below w.heap.size w wc)))
       case first =>
        (have H := HC13.out); clear HC13; (replace H : (if bz107 = true then (impl_states.j1 k1 l0 l1 x5_1 bz107 t110 t111 0 t104 (t104.length : Int) x17_1 false ((rd_T69 l0 x17_1).f0) ((rd_T69 l0 x17_1).f1) ((rd_T69 l0 x17_1).f2) ((rd_T69 l0 x17_1).f3) ((rd_T69 l0 x17_1).f4) ((rd_T69 l0 x17_1).f5) ((rd_T69 l0 x17_1).f6)) else (impl_states.j1 k1 l0 l1 x5_1 bz107 t110 t111 0 t104 (t104.length : Int) x17_1 t111 ((rd_T69 l0 x17_1).f0) ((rd_T69 l0 x17_1).f1) ((rd_T69 l0 x17_1).f2) ((rd_T69 l0 x17_1).f3) ((rd_T69 l0 x17_1).f4) ((rd_T69 l0 x17_1).f5) ((rd_T69 l0 x17_1).f6))) = some r := H); (by_cases c18 : bz107 = true)
        ·subst c18
         (rw [if_pos rfl] at H); (have H' := Aside0.mk H); clear H; (go_wp2); (go_meet)
         case rel => exact ⟨_, (false), (by first | rfl | (simp; done) | (simp [*]; done)), H', ⟨by have := HK1.out; first | omega | exact Nat.le_refl _⟩, ⟨by (with_reducible repeat (first | apply rA | apply rN | apply rD)); exact HO_5.out⟩, ⟨by (with_reducible repeat (first | apply rA | apply rN | apply rD)); exact HO_15.out⟩, ⟨by (with_reducible repeat (first | refine kN ?_ _ | refine kD ?_ | refine kA ?_ _)); exact BK109.out⟩, ⟨by repeat (first | (with_reducible first | exact HB.out | apply bA | apply bN | apply bD | refine below_set ?_ GE109.out) | exact HB.out)⟩⟩
        ·replace c18 := Bool.eq_false_iff.mpr c18
         subst c18; (rw [if_neg (show ¬ (false = true) by decide)] at H); (have H' := Aside0.mk H); clear H; (go_wp2); (go_meet)
         case rel => exact ⟨_, (t111), (by first | rfl | (simp; done) | (simp [*]; done)), H', ⟨by have := HK1.out; first | omega | exact Nat.le_refl _⟩, ⟨by (with_reducible repeat (first | apply rA | apply rN | apply rD)); exact HO_5.out⟩, ⟨by (with_reducible repeat (first | apply rA | apply rN | apply rD)); exact HO_15.out⟩, ⟨by (with_reducible repeat (first | refine kN ?_ _ | refine kD ?_ | refine kA ?_ _)); exact BK109.out⟩, ⟨by repeat (first | (with_reducible first | exact HB.out | apply bA | apply bN | apply bD | refine below_set ?_ GE109.out) | exact HB.out)⟩⟩
       case rest =>
        clear HC13; (try clear c1); (try clear p1); (try clear q1); (try clear hx1); (try clear p2); (try clear c5); (try clear c6); (try clear c7); (try clear c8); (try clear c8b0); (try clear c9); (try clear c9b0); (try clear c10); (try clear c10b0); (try clear p10); (try clear q10); (try clear hx10); (try clear c11); (try clear c11b0); (try clear q17); (try clear c18); (try clear hcz15_0); (try clear hcz15_1); (try clear hcz15_2); (try clear hcz15_3); (try clear hcz15_4); (try clear hcz15_5); (try clear hcz15_6); (try clear hfz15_0); (try clear hfz15_1); (try clear hfz15_2); (try clear hfz15_3); (try clear hfz15_4); (try clear hfz15_5); (try clear hfz15_6); (try clear hx107_0); (try clear hx108_0); (try clear hx108_1); (try clear hx108_2); (try clear hx108_3); (try clear hx108_4); (try clear hx108_5); (try clear hx108_6); (try clear p107); (try clear p108); (try clear p2); (try clear q107); (try clear q108); (obtain ⟨kq, x33_12, rfl, HA, HJ12, HO_5, HO_15, BK109, HB⟩ := hcut)
        cases kq with
        | zero => exact absurd HA.out (by simp [impl_states.j1])
        | succ kj12 =>
         (have H := HA.out); clear HA; (simp only [impl_states.j1] at H); (by_cases c19 : x33_12 = true)
         ·subst c19
          (rw [if_pos rfl] at H); (by_cases c20 : x5_1.length < 17592186044416)
          ·rw [if_pos c20] at H
           (have LMc20 := Aside0.mk c20); clear c20; (obtain ⟨y112, hy112⟩ : ∃ y_ : List Int, y_ = (x5_1 ++ [3]) := ⟨_, rfl⟩); (replace H : (impl_states.l0 kj12 l0 l1 y112 t104 (t104.length : Int) (wrap64 (x17_1 + 1))) = some r := by first | (rw [hy112]; with_reducible exact H) | (have H2_ := (Option.bind_some _ _).symm.trans H; rw [hy112]; with_reducible exact H2_) | (have H2_ := (Option.bind_some _ _).symm.trans H; with_reducible exact H2_) | with_reducible exact H | (rw [hy112]; exact H) | exact H); (have Ny112 := Aside0.mk hy112); clear hy112; (have H' := Aside0.mk H); clear H; (go_wp2_with (first | ((with_reducible refine gate_builtin (b := .append) (xs := #[.tmp 60, .tmp 62]) rfl ?_); at_builtin; refine Kd.R_append (Kd.int .i64) (w0 := w) w.heap.size rfl (.tmp 60) (.tmp 62) 38 3 (.int .i64 0) 8 rfl Tryd.underlying38 info3 rfl (by decide) (by omega) u5 x5_1 3 [.int .i64 3] (fun _ => True) (fun _ => False) rfl rfl ?aP (fun _ hk => hk.elim) ?aF ?aO ?aB ?aS ?aL ?_; (case aP => exact rfl); (case aB => exact (by repeat (first | (with_reducible first | exact HB.out | apply bA | apply bN | apply bD | refine below_set ?_ GE109.out) | exact HB.out))); (case aF => exact (fun _ _ => trivial)); (case aO => exact (by (with_reducible repeat (first | apply rA | apply rN | apply rD)); exact HO_5.out)); (case aS => exact (below_size (by repeat (first | (with_reducible first | exact HB.out | apply bA | apply bN | apply bD | refine below_set ?_ GE109.out) | exact HB.out)))); (case aL => have := LMc20.out; omega); intro v113 w21 ho hb hg hat; rw [← Ny112.out] at ho; have n0_ := Aside0.mk (Kd.R_over' (by (with_reducible repeat (first | apply rA | apply rN | apply rD)); exact HO_15.out) (Kd.R_typed (by (with_reducible repeat (first | apply rA | apply rN | apply rD)); exact HO_5.out)) (by decide) hg); have n1_ := Aside0.mk (blk_grown (by (with_reducible repeat (first | refine kN ?_ _ | refine kD ?_ | refine kA ?_ _)); exact BK109.out) hg (Kd.R_ne HO_5.out BK109.out (by decide))); have n2_ := Aside0.mk (hb); have n3_ := Aside0.mk (ho); clear HO_15 BK109 HB HO_5; have HO_15 := n0_; have BK109 := n1_; have HB := n2_; have HO114 := n3_; clear n0_ n1_ n2_ n3_ ho hb hg hat))); go_roundg kj12
           case measure => have := HK1.out; have := HJ12.out; omega
           case rel => exact ⟨(y112), (wrap64 (x17_1 + 1)), (by first | rfl | (simp; done) | (simp [*]; done)), H', ⟨by have := HK1.out; have := HJ12.out; omega⟩, ⟨by (with_reducible repeat (first | apply rA | apply rN | apply rD)); exact HO114.out⟩, ⟨by (with_reducible repeat (first | apply rA | apply rN | apply rD)); exact HO_15.out⟩, ⟨by repeat (first | (with_reducible first | exact HB.out | apply bA | apply bN | apply bD | refine below_set ?_ GE109.out) | exact HB.out)⟩⟩
          ·rw [if_neg c20] at H
           exact absurd H (by simp)
         ·replace c19 := Bool.eq_false_iff.mpr c19
          subst c19; (rw [if_neg (show ¬ (false = true) by decide)] at H); (have HC22 := Aside0.mk H); clear H; (go_upto_region 10 with (fail)); (go_cut [39] (fun v39 wc => ∃ (kq : Nat) (x39_21 : Bool), v39 = .bool x39_21 ∧ Aside0 (impl_states.j2 kq l0 l1 x5_1 bz107 t110 t111 0 t104 (t104.length : Int) x17_1 x39_21 ((rd_T69 l0 x17_1).f0) ((rd_T69 l0 x17_1).f1) ((rd_T69 l0 x17_1).f2) ((rd_T69 l0 x17_1).f3) ((rd_T69 l0 x17_1).f4) ((rd_T69 l0 x17_1).f5) ((rd_T69 l0 x17_1).f6) = some r) ∧ Aside0 (kq ≤ kj12) ∧ Aside0 (Kd.R (Kd.int .i64) 3 wc w.heap.size (fun _ => True) u5 x5_1) ∧ Aside0 (Kd.R Kd.bool 4 wc w.heap.size (fun _ => True) (.slice (some ad107) t104.length co7) t104) ∧ Aside0 (wc.heap[gb109]? = some (.cells #[.string ((rd_T69 l0 x17_1).f0), .int .i64 ((rd_T69 l0 x17_1).f1), .int .i64 ((rd_T69 l0 x17_1).f2), .int .i64 ((rd_T69 l0 x17_1).f3), (.slice A108_4 ((rd_T69 l0 x17_1).f4).length c108_4), .bool ((rd_T69 l0 x17_1).f5), .string ((rd_T69 l0 x17_1).f6)] 69 (0, 0))) ∧ Aside0 (Below w.heap.size w wc)))
          case first =>
           (have H := HC22.out); clear HC22; (replace H : (if (bz107) = true then (if ((rd_T69 l0 x17_1).f5) = true then (impl_states.j2 kj12 l0 l1 x5_1 (bz107) t110 t111 0 t104 (t104.length : Int) x17_1 (!t111) ((rd_T69 l0 x17_1).f0) ((rd_T69 l0 x17_1).f1) ((rd_T69 l0 x17_1).f2) ((rd_T69 l0 x17_1).f3) ((rd_T69 l0 x17_1).f4) ((rd_T69 l0 x17_1).f5) ((rd_T69 l0 x17_1).f6)) else (impl_states.j2 kj12 l0 l1 x5_1 (bz107) t110 t111 0 t104 (t104.length : Int) x17_1 false ((rd_T69 l0 x17_1).f0) ((rd_T69 l0 x17_1).f1) ((rd_T69 l0 x17_1).f2) ((rd_T69 l0 x17_1).f3) ((rd_T69 l0 x17_1).f4) ((rd_T69 l0 x17_1).f5) ((rd_T69 l0 x17_1).f6))) else (impl_states.j2 kj12 l0 l1 x5_1 (bz107) t110 t111 0 t104 (t104.length : Int) x17_1 false ((rd_T69 l0 x17_1).f0) ((rd_T69 l0 x17_1).f1) ((rd_T69 l0 x17_1).f2) ((rd_T69 l0 x17_1).f3) ((rd_T69 l0 x17_1).f4) ((rd_T69 l0 x17_1).f5) ((rd_T69 l0 x17_1).f6))) = some r := H); (by_cases c24 : (bz107) = true)
           ·subst c24
            (rw [if_pos rfl] at H); (by_cases c25 : ((rd_T69 l0 x17_1).f5) = true)
            ·rw [if_pos c25] at H
             (have c25b0 : ((rd_T69 l0 x17_1).f5) = true := c25); clear c25; (have H' := Aside0.mk H); clear H; (have hcz26_0 := cz BK109.out 0); (have hcz26_1 := cz BK109.out 1); (have hcz26_2 := cz BK109.out 2); (have hcz26_3 := cz BK109.out 3); (have hcz26_4 := cz BK109.out 4); (have hcz26_5 := cz BK109.out 5); (have hcz26_6 := cz BK109.out 6); (have hfz26_0 := blk_frozen BK109.out 0); (have hfz26_1 := blk_frozen BK109.out 1); (have hfz26_2 := blk_frozen BK109.out 2); (have hfz26_3 := blk_frozen BK109.out 3); (have hfz26_4 := blk_frozen BK109.out 4); (have hfz26_5 := blk_frozen BK109.out 5); (have hfz26_6 := blk_frozen BK109.out 6); (go_wp2); (go_meet)
             case rel => exact ⟨_, (!t111), (by first | rfl | (simp; done) | (simp [*]; done)), H', ⟨by have := HK1.out; have := HJ12.out; first | omega | exact Nat.le_refl _⟩, ⟨by (with_reducible repeat (first | apply rA | apply rN | apply rD)); exact HO_5.out⟩, ⟨by (with_reducible repeat (first | apply rA | apply rN | apply rD)); exact HO_15.out⟩, ⟨by (with_reducible repeat (first | refine kN ?_ _ | refine kD ?_ | refine kA ?_ _)); exact BK109.out⟩, ⟨by repeat (first | (with_reducible first | exact HB.out | apply bA | apply bN | apply bD | refine below_set ?_ GE109.out) | exact HB.out)⟩⟩
            ·rw [if_neg c25] at H
             (have c25b0 : ((rd_T69 l0 x17_1).f5) = false := by simpa using c25); clear c25; (have H' := Aside0.mk H); clear H; (have hcz27_0 := cz BK109.out 0); (have hcz27_1 := cz BK109.out 1); (have hcz27_2 := cz BK109.out 2); (have hcz27_3 := cz BK109.out 3); (have hcz27_4 := cz BK109.out 4); (have hcz27_5 := cz BK109.out 5); (have hcz27_6 := cz BK109.out 6); (have hfz27_0 := blk_frozen BK109.out 0); (have hfz27_1 := blk_frozen BK109.out 1); (have hfz27_2 := blk_frozen BK109.out 2); (have hfz27_3 := blk_frozen BK109.out 3); (have hfz27_4 := blk_frozen BK109.out 4); (have hfz27_5 := blk_frozen BK109.out 5); (have hfz27_6 := blk_frozen BK109.out 6); (go_wp2); (go_meet)
             case rel => exact ⟨_, (false), (by first | rfl | (simp; done) | (simp [*]; done)), H', ⟨by have := HK1.out; have := HJ12.out; first | omega | exact Nat.le_refl _⟩, ⟨by (with_reducible repeat (first | apply rA | apply rN | apply rD)); exact HO_5.out⟩, ⟨by (with_reducible repeat (first | apply rA | apply rN | apply rD)); exact HO_15.out⟩, ⟨by (with_reducible repeat (first | refine kN ?_ _ | refine kD ?_ | refine kA ?_ _)); exact BK109.out⟩, ⟨by repeat (first | (with_reducible first | exact HB.out | apply bA | apply bN | apply bD | refine below_set ?_ GE109.out) | exact HB.out)⟩⟩
           ·replace c24 := Bool.eq_false_iff.mpr c24
            subst c24; (rw [if_neg (show ¬ (false = true) by decide)] at H); (have H' := Aside0.mk H); clear H; (go_wp2); (go_meet)
            case rel => exact ⟨_, (false), (by first | rfl | (simp; done) | (simp [*]; done)), H', ⟨by have := HK1.out; have := HJ12.out; first | omega | exact Nat.le_refl _⟩, ⟨by (with_reducible repeat (first | apply rA | apply rN | apply rD)); exact HO_5.out⟩, ⟨by (with_reducible repeat (first | apply rA | apply rN | apply rD)); exact HO_15.out⟩, ⟨by (with_reducible repeat (first | refine kN ?_ _ | refine kD ?_ | refine kA ?_ _)); exact BK109.out⟩, ⟨by repeat (first | (with_reducible first | exact HB.out | apply bA | apply bN | apply bD | refine below_set ?_ GE109.out) | exact HB.out)⟩⟩
          case rest =>
           clear HC22; (try clear c1); (try clear p1); (try clear q1); (try clear hx1); (try clear c2); (try clear p2); (try clear q2); (try clear c5); (try clear c6); (try clear p6); (try clear c7); (try clear c8); (try clear c8b0); (try clear c9); (try clear c9b0); (try clear c10); (try clear c10b0); (try clear p10); (try clear q10); (try clear hx10); (try clear c11); (try clear c11b0); (try clear q17); (try clear c18); (try clear c19); (try clear c20); (try clear q23); (try clear c24); (try clear c24b0); (try clear c25); (try clear c25b0); (try clear hcz15_0); (try clear hcz15_1); (try clear hcz15_2); (try clear hcz15_3); (try clear hcz15_4); (try clear hcz15_5); (try clear hcz15_6); (try clear hcz26_0); (try clear hcz26_1); (try clear hcz26_2); (try clear hcz26_3); (try clear hcz26_4); (try clear hcz26_5); (try clear hcz26_6); (try clear hcz27_0); (try clear hcz27_1); (try clear hcz27_2); (try clear hcz27_3); (try clear hcz27_4); (try clear hcz27_5); (try clear hcz27_6); (try clear hfz15_0); (try clear hfz15_1); (try clear hfz15_2); (try clear hfz15_3); (try clear hfz15_4); (try clear hfz15_5); (try clear hfz15_6); (try clear hfz26_0); (try clear hfz26_1); (try clear hfz26_2); (try clear hfz26_3); (try clear hfz26_4); (try clear hfz26_5); (try clear hfz26_6); (try clear hfz27_0); (try clear hfz27_1); (try clear hfz27_2); (try clear hfz27_3); (try clear hfz27_4); (try clear hfz27_5); (try clear hfz27_6); (try clear hx107_0); (try clear hx108_0); (try clear hx108_1); (try clear hx108_2); (try clear hx108_3); (try clear hx108_4); (try clear hx108_5); (try clear hx108_6); (try clear p1); (try clear p10); (try clear p107); (try clear p108); (try clear p2); (try clear q1); (try clear q10); (try clear q107); (try clear q108); (try clear q17); (obtain ⟨kq, x39_21, rfl, HA, HJ21, HO_5, HO_15, BK109, HB⟩ := hcut)
           cases kq with
           | zero => exact absurd HA.out (by simp [impl_states.j2])
           | succ kj21 =>
            (have H := HA.out); clear HA; (simp only [impl_states.j2] at H); (by_cases c28 : x39_21 = true)
            ·subst c28
             (rw [if_pos rfl] at H); (by_cases c29 : x5_1.length < 17592186044416)
             ·rw [if_pos c29] at H
              (have LMc29 := Aside0.mk c29); clear c29; (obtain ⟨y115, hy115⟩ : ∃ y_ : List Int, y_ = (x5_1 ++ [1]) := ⟨_, rfl⟩); (replace H : (impl_states.l0 kj21 l0 l1 y115 t104 (t104.length : Int) (wrap64 (x17_1 + 1))) = some r := by first | (rw [hy115]; with_reducible exact H) | (have H2_ := (Option.bind_some _ _).symm.trans H; rw [hy115]; with_reducible exact H2_) | (have H2_ := (Option.bind_some _ _).symm.trans H; with_reducible exact H2_) | with_reducible exact H | (rw [hy115]; exact H) | exact H); (have Ny115 := Aside0.mk hy115); clear hy115; (have H' := Aside0.mk H); clear H; (go_wp2_with (first | ((with_reducible refine gate_builtin (b := .append) (xs := #[.tmp 60, .tmp 62]) rfl ?_); at_builtin; refine Kd.R_append (Kd.int .i64) (w0 := w) w.heap.size rfl (.tmp 60) (.tmp 62) 38 3 (.int .i64 0) 8 rfl Tryd.underlying38 info3 rfl (by decide) (by omega) u5 x5_1 1 [.int .i64 1] (fun _ => True) (fun _ => False) rfl rfl ?aP (fun _ hk => hk.elim) ?aF ?aO ?aB ?aS ?aL ?_; (case aP => exact rfl); (case aB => exact (by repeat (first | (with_reducible first | exact HB.out | apply bA | apply bN | apply bD | refine below_set ?_ GE109.out) | exact HB.out))); (case aF => exact (fun _ _ => trivial)); (case aO => exact (by (with_reducible repeat (first | apply rA | apply rN | apply rD)); exact HO_5.out)); (case aS => exact (below_size (by repeat (first | (with_reducible first | exact HB.out | apply bA | apply bN | apply bD | refine below_set ?_ GE109.out) | exact HB.out)))); (case aL => have := LMc29.out; omega); intro v116 w30 ho hb hg hat; rw [← Ny115.out] at ho; have n0_ := Aside0.mk (Kd.R_over' (by (with_reducible repeat (first | apply rA | apply rN | apply rD)); exact HO_15.out) (Kd.R_typed (by (with_reducible repeat (first | apply rA | apply rN | apply rD)); exact HO_5.out)) (by decide) hg); have n1_ := Aside0.mk (blk_grown (by (with_reducible repeat (first | refine kN ?_ _ | refine kD ?_ | refine kA ?_ _)); exact BK109.out) hg (Kd.R_ne HO_5.out BK109.out (by decide))); have n2_ := Aside0.mk (hb); have n3_ := Aside0.mk (ho); clear HO_15 BK109 HB HO_5; have HO_15 := n0_; have BK109 := n1_; have HB := n2_; have HO117 := n3_; clear n0_ n1_ n2_ n3_ ho hb hg hat))); go_roundg kj21
              case measure => have := HK1.out; have := HJ12.out; have := HJ21.out; omega
              case rel => exact ⟨(y115), (wrap64 (x17_1 + 1)), (by first | rfl | (simp; done) | (simp [*]; done)), H', ⟨by have := HK1.out; have := HJ12.out; have := HJ21.out; omega⟩, ⟨by (with_reducible repeat (first | apply rA | apply rN | apply rD)); exact HO117.out⟩, ⟨by (with_reducible repeat (first | apply rA | apply rN | apply rD)); exact HO_15.out⟩, ⟨by repeat (first | (with_reducible first | exact HB.out | apply bA | apply bN | apply bD | refine below_set ?_ GE109.out) | exact HB.out)⟩⟩
             ·rw [if_neg c29] at H
              exact absurd H (by simp)
            ·replace c28 := Bool.eq_false_iff.mpr c28
             subst c28; (rw [if_neg (show ¬ (false = true) by decide)] at H); (replace H : (if (bz107) = true then (if t111 = true then ((impl_Field_isValue.f kj21 ((rd_T69 l0 x17_1).f0) ((rd_T69 l0 x17_1).f1) ((rd_T69 l0 x17_1).f2) ((rd_T69 l0 x17_1).f3) ((rd_T69 l0 x17_1).f4) ((rd_T69 l0 x17_1).f5) ((rd_T69 l0 x17_1).f6) t110).bind fun t118 => (if t118 = true then (if x5_1.length < 17592186044416 then (impl_states.l0 kj21 l0 l1 (x5_1 ++ [0]) t104 (t104.length : Int) (wrap64 (x17_1 + 1))) else (none)) else (if x5_1.length < 17592186044416 then (impl_states.l0 kj21 l0 l1 (x5_1 ++ [2]) t104 (t104.length : Int) (wrap64 (x17_1 + 1))) else (none)))) else (if x5_1.length < 17592186044416 then (impl_states.l0 kj21 l0 l1 (x5_1 ++ [0]) t104 (t104.length : Int) (wrap64 (x17_1 + 1))) else (none))) else (if x5_1.length < 17592186044416 then (impl_states.l0 kj21 l0 l1 (x5_1 ++ [0]) t104 (t104.length : Int) (wrap64 (x17_1 + 1))) else (none))) = some r := H); (by_cases c32 : (bz107) = true)
             ·subst c32
              (rw [if_pos rfl] at H); (by_cases c33 : t111 = true)
              ·subst c33
               (rw [if_pos rfl] at H); (replace H := Option.bind_eq_some_iff.mp H); (obtain ⟨t118, A340, H⟩ := H); (have A34 := Aside0.mk A340); clear A340; (by_cases c35 : t118 = true)
               ·subst c35
                (rw [if_pos rfl] at H); (by_cases c36 : x5_1.length < 17592186044416)
                ·rw [if_pos c36] at H
                 (have LMc36 := Aside0.mk c36); clear c36; (obtain ⟨y119, hy119⟩ : ∃ y_ : List Int, y_ = (x5_1 ++ [0]) := ⟨_, rfl⟩); (replace H : (impl_states.l0 kj21 l0 l1 y119 t104 (t104.length : Int) (wrap64 (x17_1 + 1))) = some r := by first | (rw [hy119]; with_reducible exact H) | (have H2_ := (Option.bind_some _ _).symm.trans H; rw [hy119]; with_reducible exact H2_) | (have H2_ := (Option.bind_some _ _).symm.trans H; with_reducible exact H2_) | with_reducible exact H | (rw [hy119]; exact H) | exact H); (have Ny119 := Aside0.mk hy119); clear hy119; (have H' := Aside0.mk H); clear H; (have hcz37_0 := cz BK109.out 0); (have hcz37_1 := cz BK109.out 1); (have hcz37_2 := cz BK109.out 2); (have hcz37_3 := cz BK109.out 3); (have hcz37_4 := cz BK109.out 4); (have hcz37_5 := cz BK109.out 5); (have hcz37_6 := cz BK109.out 6); (have hfz37_0 := blk_frozen BK109.out 0); (have hfz37_1 := blk_frozen BK109.out 1); (have hfz37_2 := blk_frozen BK109.out 2); (have hfz37_3 := blk_frozen BK109.out 3); (have hfz37_4 := blk_frozen BK109.out 4); (have hfz37_5 := blk_frozen BK109.out 5); (have hfz37_6 := blk_frozen BK109.out 6); (go_wp2_with (first | (go_at_call 94; (with_reducible refine (impl_Field_isValue.calls kj21 ((rd_T69 l0 x17_1).f0) ((rd_T69 l0 x17_1).f1) ((rd_T69 l0 x17_1).f2) ((rd_T69 l0 x17_1).f3) _ _ ((rd_T69 l0 x17_1).f4) ((rd_T69 l0 x17_1).f5) ((rd_T69 l0 x17_1).f6) t110 true _ ?side1 ?side2 ?side3 A34.out).mono ?_); (case side1 => repeat (first | exact (Kd.C_below HR108_4.out HB.out) | (with_reducible first | refine cA ?_ _ | refine cN ?_ _ | refine cD ?_))); (case side2 => exact HC108_4.out); (case side3 => first | exact GE.below HG.out (by repeat (first | (with_reducible first | exact HB.out | apply bA | apply bN | apply bD | refine below_set ?_ GE109.out) | exact HB.out)) | (repeat (first | exact HG.out | (with_reducible first | apply GE.drewN | apply GE.drew | apply GE.alloc)))); rintro e w38 ⟨rfl, hb⟩; have n0_ := Aside0.mk (Kd.R_below (by (with_reducible repeat (first | apply rA | apply rN | apply rD)); exact HO_5.out) hb); have n1_ := Aside0.mk (Kd.R_below (by (with_reducible repeat (first | apply rA | apply rN | apply rD)); exact HO_15.out) hb); have n2_ := Aside0.mk (blk_below (by (with_reducible repeat (first | refine kN ?_ _ | refine kD ?_ | refine kA ?_ _)); exact BK109.out) hb); have n3_ := Aside0.mk (below_step (by repeat (first | (with_reducible first | exact HB.out | apply bA | apply bN | apply bD | refine below_set ?_ GE109.out) | exact HB.out)) hb); clear HO_5 HO_15 BK109 HB; have HO_5 := n0_; have HO_15 := n1_; have BK109 := n2_; have HB := n3_; clear n0_ n1_ n2_ n3_; (try clear hb); (try clear hb2); (try clear hk); (try clear hi)) | ((with_reducible refine gate_builtin (b := .append) (xs := #[.tmp 60, .tmp 62]) rfl ?_); at_builtin; refine Kd.R_append (Kd.int .i64) (w0 := w) w.heap.size rfl (.tmp 60) (.tmp 62) 38 3 (.int .i64 0) 8 rfl Tryd.underlying38 info3 rfl (by decide) (by omega) u5 x5_1 0 [.int .i64 0] (fun _ => True) (fun _ => False) rfl rfl ?aP (fun _ hk => hk.elim) ?aF ?aO ?aB ?aS ?aL ?_; (case aP => exact rfl); (case aB => exact (by repeat (first | (with_reducible first | exact HB.out | apply bA | apply bN | apply bD | refine below_set ?_ GE109.out) | exact HB.out))); (case aF => exact (fun _ _ => trivial)); (case aO => exact (by (with_reducible repeat (first | apply rA | apply rN | apply rD)); exact HO_5.out)); (case aS => exact (below_size (by repeat (first | (with_reducible first | exact HB.out | apply bA | apply bN | apply bD | refine below_set ?_ GE109.out) | exact HB.out)))); (case aL => have := LMc36.out; omega); intro v120 w39 ho hb hg hat; rw [← Ny119.out] at ho; have n0_ := Aside0.mk (Kd.R_over' (by (with_reducible repeat (first | apply rA | apply rN | apply rD)); exact HO_15.out) (Kd.R_typed (by (with_reducible repeat (first | apply rA | apply rN | apply rD)); exact HO_5.out)) (by decide) hg); have n1_ := Aside0.mk (blk_grown (by (with_reducible repeat (first | refine kN ?_ _ | refine kD ?_ | refine kA ?_ _)); exact BK109.out) hg (Kd.R_ne HO_5.out BK109.out (by decide))); have n2_ := Aside0.mk (hb); have n3_ := Aside0.mk (ho); clear HO_15 BK109 HB HO_5; have HO_15 := n0_; have BK109 := n1_; have HB := n2_; have HO121 := n3_; clear n0_ n1_ n2_ n3_ ho hb hg hat))); go_roundg kj21
                 case measure => have := HK1.out; have := HJ12.out; have := HJ21.out; omega
                 case rel => exact ⟨(y119), (wrap64 (x17_1 + 1)), (by first | rfl | (simp; done) | (simp [*]; done)), H', ⟨by have := HK1.out; have := HJ12.out; have := HJ21.out; omega⟩, ⟨by (with_reducible repeat (first | apply rA | apply rN | apply rD)); exact HO121.out⟩, ⟨by (with_reducible repeat (first | apply rA | apply rN | apply rD)); exact HO_15.out⟩, ⟨by repeat (first | (with_reducible first | exact HB.out | apply bA | apply bN | apply bD | refine below_set ?_ GE109.out) | exact HB.out)⟩⟩
                ·rw [if_neg c36] at H
                 exact absurd H (by simp)
               ·replace c35 := Bool.eq_false_iff.mpr c35
                subst c35; (rw [if_neg (show ¬ (false = true) by decide)] at H); (by_cases c40 : x5_1.length < 17592186044416)
                ·rw [if_pos c40] at H
                 (have LMc40 := Aside0.mk c40); clear c40; (obtain ⟨y122, hy122⟩ : ∃ y_ : List Int, y_ = (x5_1 ++ [2]) := ⟨_, rfl⟩); (replace H : (impl_states.l0 kj21 l0 l1 y122 t104 (t104.length : Int) (wrap64 (x17_1 + 1))) = some r := by first | (rw [hy122]; with_reducible exact H) | (have H2_ := (Option.bind_some _ _).symm.trans H; rw [hy122]; with_reducible exact H2_) | (have H2_ := (Option.bind_some _ _).symm.trans H; with_reducible exact H2_) | with_reducible exact H | (rw [hy122]; exact H) | exact H); (have Ny122 := Aside0.mk hy122); clear hy122; (have H' := Aside0.mk H); clear H; (have hcz41_0 := cz BK109.out 0); (have hcz41_1 := cz BK109.out 1); (have hcz41_2 := cz BK109.out 2); (have hcz41_3 := cz BK109.out 3); (have hcz41_4 := cz BK109.out 4); (have hcz41_5 := cz BK109.out 5); (have hcz41_6 := cz BK109.out 6); (have hfz41_0 := blk_frozen BK109.out 0); (have hfz41_1 := blk_frozen BK109.out 1); (have hfz41_2 := blk_frozen BK109.out 2); (have hfz41_3 := blk_frozen BK109.out 3); (have hfz41_4 := blk_frozen BK109.out 4); (have hfz41_5 := blk_frozen BK109.out 5); (have hfz41_6 := blk_frozen BK109.out 6); (go_wp2_with (first | (go_at_call 94; (with_reducible refine (impl_Field_isValue.calls kj21 ((rd_T69 l0 x17_1).f0) ((rd_T69 l0 x17_1).f1) ((rd_T69 l0 x17_1).f2) ((rd_T69 l0 x17_1).f3) _ _ ((rd_T69 l0 x17_1).f4) ((rd_T69 l0 x17_1).f5) ((rd_T69 l0 x17_1).f6) t110 false _ ?side1 ?side2 ?side3 A34.out).mono ?_); (case side1 => repeat (first | exact (Kd.C_below HR108_4.out HB.out) | (with_reducible first | refine cA ?_ _ | refine cN ?_ _ | refine cD ?_))); (case side2 => exact HC108_4.out); (case side3 => first | exact GE.below HG.out (by repeat (first | (with_reducible first | exact HB.out | apply bA | apply bN | apply bD | refine below_set ?_ GE109.out) | exact HB.out)) | (repeat (first | exact HG.out | (with_reducible first | apply GE.drewN | apply GE.drew | apply GE.alloc)))); rintro e w42 ⟨rfl, hb⟩; have n0_ := Aside0.mk (Kd.R_below (by (with_reducible repeat (first | apply rA | apply rN | apply rD)); exact HO_5.out) hb); have n1_ := Aside0.mk (Kd.R_below (by (with_reducible repeat (first | apply rA | apply rN | apply rD)); exact HO_15.out) hb); have n2_ := Aside0.mk (blk_below (by (with_reducible repeat (first | refine kN ?_ _ | refine kD ?_ | refine kA ?_ _)); exact BK109.out) hb); have n3_ := Aside0.mk (below_step (by repeat (first | (with_reducible first | exact HB.out | apply bA | apply bN | apply bD | refine below_set ?_ GE109.out) | exact HB.out)) hb); clear HO_5 HO_15 BK109 HB; have HO_5 := n0_; have HO_15 := n1_; have BK109 := n2_; have HB := n3_; clear n0_ n1_ n2_ n3_; (try clear hb); (try clear hb2); (try clear hk); (try clear hi)) | ((with_reducible refine gate_builtin (b := .append) (xs := #[.tmp 60, .tmp 62]) rfl ?_); at_builtin; refine Kd.R_append (Kd.int .i64) (w0 := w) w.heap.size rfl (.tmp 60) (.tmp 62) 38 3 (.int .i64 0) 8 rfl Tryd.underlying38 info3 rfl (by decide) (by omega) u5 x5_1 2 [.int .i64 2] (fun _ => True) (fun _ => False) rfl rfl ?aP (fun _ hk => hk.elim) ?aF ?aO ?aB ?aS ?aL ?_; (case aP => exact rfl); (case aB => exact (by repeat (first | (with_reducible first | exact HB.out | apply bA | apply bN | apply bD | refine below_set ?_ GE109.out) | exact HB.out))); (case aF => exact (fun _ _ => trivial)); (case aO => exact (by (with_reducible repeat (first | apply rA | apply rN | apply rD)); exact HO_5.out)); (case aS => exact (below_size (by repeat (first | (with_reducible first | exact HB.out | apply bA | apply bN | apply bD | refine below_set ?_ GE109.out) | exact HB.out)))); (case aL => have := LMc40.out; omega); intro v123 w43 ho hb hg hat; rw [← Ny122.out] at ho; have n0_ := Aside0.mk (Kd.R_over' (by (with_reducible repeat (first | apply rA | apply rN | apply rD)); exact HO_15.out) (Kd.R_typed (by (with_reducible repeat (first | apply rA | apply rN | apply rD)); exact HO_5.out)) (by decide) hg); have n1_ := Aside0.mk (blk_grown (by (with_reducible repeat (first | refine kN ?_ _ | refine kD ?_ | refine kA ?_ _)); exact BK109.out) hg (Kd.R_ne HO_5.out BK109.out (by decide))); have n2_ := Aside0.mk (hb); have n3_ := Aside0.mk (ho); clear HO_15 BK109 HB HO_5; have HO_15 := n0_; have BK109 := n1_; have HB := n2_; have HO124 := n3_; clear n0_ n1_ n2_ n3_ ho hb hg hat))); go_roundg kj21
                 case measure => have := HK1.out; have := HJ12.out; have := HJ21.out; omega
                 case rel => exact ⟨(y122), (wrap64 (x17_1 + 1)), (by first | rfl | (simp; done) | (simp [*]; done)), H', ⟨by have := HK1.out; have := HJ12.out; have := HJ21.out; omega⟩, ⟨by (with_reducible repeat (first | apply rA | apply rN | apply rD)); exact HO124.out⟩, ⟨by (with_reducible repeat (first | apply rA | apply rN | apply rD)); exact HO_15.out⟩, ⟨by repeat (first | (with_reducible first | exact HB.out | apply bA | apply bN | apply bD | refine below_set ?_ GE109.out) | exact HB.out)⟩⟩
                ·rw [if_neg c40] at H
                 exact absurd H (by simp)
              ·replace c33 := Bool.eq_false_iff.mpr c33
               subst c33; (rw [if_neg (show ¬ (false = true) by decide)] at H); (by_cases c44 : x5_1.length < 17592186044416)
               ·rw [if_pos c44] at H
                (have LMc44 := Aside0.mk c44); clear c44; (obtain ⟨y125, hy125⟩ : ∃ y_ : List Int, y_ = (x5_1 ++ [0]) := ⟨_, rfl⟩); (replace H : (impl_states.l0 kj21 l0 l1 y125 t104 (t104.length : Int) (wrap64 (x17_1 + 1))) = some r := by first | (rw [hy125]; with_reducible exact H) | (have H2_ := (Option.bind_some _ _).symm.trans H; rw [hy125]; with_reducible exact H2_) | (have H2_ := (Option.bind_some _ _).symm.trans H; with_reducible exact H2_) | with_reducible exact H | (rw [hy125]; exact H) | exact H); (have Ny125 := Aside0.mk hy125); clear hy125; (have H' := Aside0.mk H); clear H; (go_wp2_with (first | ((with_reducible refine gate_builtin (b := .append) (xs := #[.tmp 60, .tmp 62]) rfl ?_); at_builtin; refine Kd.R_append (Kd.int .i64) (w0 := w) w.heap.size rfl (.tmp 60) (.tmp 62) 38 3 (.int .i64 0) 8 rfl Tryd.underlying38 info3 rfl (by decide) (by omega) u5 x5_1 0 [.int .i64 0] (fun _ => True) (fun _ => False) rfl rfl ?aP (fun _ hk => hk.elim) ?aF ?aO ?aB ?aS ?aL ?_; (case aP => exact rfl); (case aB => exact (by repeat (first | (with_reducible first | exact HB.out | apply bA | apply bN | apply bD | refine below_set ?_ GE109.out) | exact HB.out))); (case aF => exact (fun _ _ => trivial)); (case aO => exact (by (with_reducible repeat (first | apply rA | apply rN | apply rD)); exact HO_5.out)); (case aS => exact (below_size (by repeat (first | (with_reducible first | exact HB.out | apply bA | apply bN | apply bD | refine below_set ?_ GE109.out) | exact HB.out)))); (case aL => have := LMc44.out; omega); intro v126 w45 ho hb hg hat; rw [← Ny125.out] at ho; have n0_ := Aside0.mk (Kd.R_over' (by (with_reducible repeat (first | apply rA | apply rN | apply rD)); exact HO_15.out) (Kd.R_typed (by (with_reducible repeat (first | apply rA | apply rN | apply rD)); exact HO_5.out)) (by decide) hg); have n1_ := Aside0.mk (blk_grown (by (with_reducible repeat (first | refine kN ?_ _ | refine kD ?_ | refine kA ?_ _)); exact BK109.out) hg (Kd.R_ne HO_5.out BK109.out (by decide))); have n2_ := Aside0.mk (hb); have n3_ := Aside0.mk (ho); clear HO_15 BK109 HB HO_5; have HO_15 := n0_; have BK109 := n1_; have HB := n2_; have HO127 := n3_; clear n0_ n1_ n2_ n3_ ho hb hg hat))); go_roundg kj21
                case measure => have := HK1.out; have := HJ12.out; have := HJ21.out; omega
                case rel => exact ⟨(y125), (wrap64 (x17_1 + 1)), (by first | rfl | (simp; done) | (simp [*]; done)), H', ⟨by have := HK1.out; have := HJ12.out; have := HJ21.out; omega⟩, ⟨by (with_reducible repeat (first | apply rA | apply rN | apply rD)); exact HO127.out⟩, ⟨by (with_reducible repeat (first | apply rA | apply rN | apply rD)); exact HO_15.out⟩, ⟨by repeat (first | (with_reducible first | exact HB.out | apply bA | apply bN | apply bD | refine below_set ?_ GE109.out) | exact HB.out)⟩⟩
               ·rw [if_neg c44] at H
                exact absurd H (by simp)
             ·replace c32 := Bool.eq_false_iff.mpr c32
              subst c32; (rw [if_neg (show ¬ (false = true) by decide)] at H); (by_cases c46 : x5_1.length < 17592186044416)
              ·rw [if_pos c46] at H
               (have LMc46 := Aside0.mk c46); clear c46; (obtain ⟨y128, hy128⟩ : ∃ y_ : List Int, y_ = (x5_1 ++ [0]) := ⟨_, rfl⟩); (replace H : (impl_states.l0 kj21 l0 l1 y128 t104 (t104.length : Int) (wrap64 (x17_1 + 1))) = some r := by first | (rw [hy128]; with_reducible exact H) | (have H2_ := (Option.bind_some _ _).symm.trans H; rw [hy128]; with_reducible exact H2_) | (have H2_ := (Option.bind_some _ _).symm.trans H; with_reducible exact H2_) | with_reducible exact H | (rw [hy128]; exact H) | exact H); (have Ny128 := Aside0.mk hy128); clear hy128; (have H' := Aside0.mk H); clear H; (go_wp2_with (first | ((with_reducible refine gate_builtin (b := .append) (xs := #[.tmp 60, .tmp 62]) rfl ?_); at_builtin; refine Kd.R_append (Kd.int .i64) (w0 := w) w.heap.size rfl (.tmp 60) (.tmp 62) 38 3 (.int .i64 0) 8 rfl Tryd.underlying38 info3 rfl (by decide) (by omega) u5 x5_1 0 [.int .i64 0] (fun _ => True) (fun _ => False) rfl rfl ?aP (fun _ hk => hk.elim) ?aF ?aO ?aB ?aS ?aL ?_; (case aP => exact rfl); (case aB => exact (by repeat (first | (with_reducible first | exact HB.out | apply bA | apply bN | apply bD | refine below_set ?_ GE109.out) | exact HB.out))); (case aF => exact (fun _ _ => trivial)); (case aO => exact (by (with_reducible repeat (first | apply rA | apply rN | apply rD)); exact HO_5.out)); (case aS => exact (below_size (by repeat (first | (with_reducible first | exact HB.out | apply bA | apply bN | apply bD | refine below_set ?_ GE109.out) | exact HB.out)))); (case aL => have := LMc46.out; omega); intro v129 w47 ho hb hg hat; rw [← Ny128.out] at ho; have n0_ := Aside0.mk (Kd.R_over' (by (with_reducible repeat (first | apply rA | apply rN | apply rD)); exact HO_15.out) (Kd.R_typed (by (with_reducible repeat (first | apply rA | apply rN | apply rD)); exact HO_5.out)) (by decide) hg); have n1_ := Aside0.mk (blk_grown (by (with_reducible repeat (first | refine kN ?_ _ | refine kD ?_ | refine kA ?_ _)); exact BK109.out) hg (Kd.R_ne HO_5.out BK109.out (by decide))); have n2_ := Aside0.mk (hb); have n3_ := Aside0.mk (ho); clear HO_15 BK109 HB HO_5; have HO_15 := n0_; have BK109 := n1_; have HB := n2_; have HO130 := n3_; clear n0_ n1_ n2_ n3_ ho hb hg hat))); go_roundg kj21
               case measure => have := HK1.out; have := HJ12.out; have := HJ21.out; omega
               case rel => exact ⟨(y128), (wrap64 (x17_1 + 1)), (by first | rfl | (simp; done) | (simp [*]; done)), H', ⟨by have := HK1.out; have := HJ12.out; have := HJ21.out; omega⟩, ⟨by (with_reducible repeat (first | apply rA | apply rN | apply rD)); exact HO130.out⟩, ⟨by (with_reducible repeat (first | apply rA | apply rN | apply rD)); exact HO_15.out⟩, ⟨by repeat (first | (with_reducible first | exact HB.out | apply bA | apply bN | apply bD | refine below_set ?_ GE109.out) | exact HB.out)⟩⟩
              ·rw [if_neg c46] at H
               exact absurd H (by simp)
      ·rw [if_neg c11] at H
       exact absurd H (by simp)
     ·rw [if_neg c10] at H
      exact absurd H (by simp)
    ·rw [if_neg c9] at H
     exact absurd H (by simp)
   ·rw [if_neg c8] at H
    (have c8b0 : decide (x17_1 < (t104.length : Int)) = false := decide_eq_false c8); clear c8; (obtain rfl := Option.some.inj H); (go_wp2); go_ret; (exact ⟨_, by first | rfl | (simp [errW_none, errW_some] <;> rfl) | (simp [*, errW_none, errW_some] <;> rfl), by (with_reducible repeat (first | apply rA | apply rN | apply rD)); exact HO_5.out, by repeat (first | (with_reducible first | exact HB.out | apply bA | apply bN | apply bD) | exact HB.out)⟩)
/-! ### impl_CheckAnswers: function 20 -/
def impl_CheckAnswers.f (k : Nat) (l0 : List (S69)) (l1 : List (S58)) : Option (List Int × Bool) := (impl_IsValidAnswers.f k l0 l1).bind fun t101 => (if t101 = true then ((impl_states.f k l0 l1).bind fun t102 => (some (t102, true))) else (some (([] : List Int), false)))
set_option maxHeartbeats 8000000 in
set_option maxRecDepth 100000 in
theorem impl_CheckAnswers.calls (k : Nat) (A0 : Option Addr) (c0 : Nat) (l0 : List (S69)) (A1 : Option Addr) (c1 : Nat) (l1 : List (S58)) (r1 : List Int) (r2 : Bool) (w : World) (hr0 : Kd.C k69 w A0 l0.length l0) (hc0 : l0.length ≤ c0) (hr1 : Kd.C k58 w A1 l1.length l1) (hc1 : l1.length ≤ c1) (hG : GE w) (h : impl_CheckAnswers.f k l0 l1 = some (r1, r2)) :
  Calls Tryd.prog 20 #[.slice A0 l0.length c0, .slice A1 l1.length c1] w fun e w' => ∃ v0_ : Value, e = .returned (.tuple #[v0_, .bool r2]) ∧ Kd.R (Kd.int .i64) 3 w' w.heap.size (fun _ => True) v0_ r1 ∧ Below w.heap.size w w' := by
 (have HR0 := Aside0.mk hr0); (have HC0 := Aside0.mk hc0); clear hr0 hc0; (have HR1 := Aside0.mk hr1); (have HC1 := Aside0.mk hc1); clear hr1 hc1; (have HG := Aside0.mk hG); clear hG; (have HB := Aside0.mk (Below.refl w.heap.size w)); (unfold impl_CheckAnswers.f at h); (have H := h); clear h; (replace H := obS H); (obtain ⟨t101, A3, H⟩ := H); (by_cases c4 : t101 = true)
 ·subst c4
  (rw [if_pos rfl] at H); (replace H := obS H); (obtain ⟨t102, A5, H⟩ := H); (simp only [Option.some.injEq, Prod.mk.injEq] at H); (obtain ⟨rfl, rfl⟩ := H); (go_enter Tryd.func20, Tryd.ntmps20); (go_wp2_with (first | ((with_reducible refine gate_callee (f := 34) rfl ?_); refine gL (some 8) Tryd.func34 #[.slice A0 l0.length c0, .slice A1 l1.length c1] ?_; (with_reducible refine (impl_IsValidAnswers.calls k _ _ l0 _ _ l1 true _ ?side1 ?side2 ?side3 ?side4 A3.out).mono ?_); (case side1 => exact cI HR0.out); (case side2 => exact HC0.out); (case side3 => exact cI HR1.out); (case side4 => exact HC1.out); rintro e w6 ⟨rfl, hb⟩; refine ⟨_, rfl, ?_⟩; have n0_ := Aside0.mk (sI hb HB); clear HB; have HB := n0_; clear n0_; (try clear hb); (try clear hb2); (try clear hk); (try clear hi)) | ((with_reducible refine gate_callee (f := 56) rfl ?_); refine gL (some 12) Tryd.func56 #[.slice A0 l0.length c0, .slice A1 l1.length c1] ?_; (with_reducible refine (impl_states.calls k _ _ l0 _ _ l1 t102 _ ?side1 ?side2 ?side3 ?side4 ?side5 A5.out).mono ?_); (case side1 => exact Kd.C_below HR0.out (eI HB)); (case side2 => exact HC0.out); (case side3 => exact Kd.C_below HR1.out (eI HB)); (case side4 => exact HC1.out); (case side5 => first | exact GE.below HG.out (eI HB) | (repeat (first | exact HG.out | (with_reducible first | apply GE.drewN | apply GE.drew | apply GE.alloc)))); rintro e w7 ⟨v103, rfl, ho0, hb⟩; refine ⟨_, rfl, ?_⟩; have n0_ := Aside0.mk (Kd.R_lower ho0 (below_size (eI HB))); have n1_ := Aside0.mk (sI hb HB); clear HB; have HO104 := n0_; have HB := n1_; clear n0_ n1_; (try clear hb); (try clear hb2); (try clear hk); (try clear hi); (try clear ho0)))); (go_ret2); (exact ⟨_, by first | rfl | (simp [errW_none, errW_some] <;> rfl) | (simp [*, errW_none, errW_some] <;> rfl), rI HO104, eI HB⟩)
 ·replace c4 := Bool.eq_false_iff.mpr c4
  subst c4; (rw [if_neg (show ¬ (false = true) by decide)] at H); (simp only [Option.some.injEq, Prod.mk.injEq] at H); (obtain ⟨rfl, rfl⟩ := H); (go_enter Tryd.func20, Tryd.ntmps20); (go_wp2_with (first | ((with_reducible refine gate_callee (f := 34) rfl ?_); refine gL (some 8) Tryd.func34 #[.slice A0 l0.length c0, .slice A1 l1.length c1] ?_; (with_reducible refine (impl_IsValidAnswers.calls k _ _ l0 _ _ l1 false _ ?side1 ?side2 ?side3 ?side4 A3.out).mono ?_); (case side1 => exact cI HR0.out); (case side2 => exact HC0.out); (case side3 => exact cI HR1.out); (case side4 => exact HC1.out); rintro e w8 ⟨rfl, hb⟩; refine ⟨_, rfl, ?_⟩; have n0_ := Aside0.mk (sI hb HB); clear HB; have HB := n0_; clear n0_; (try clear hb); (try clear hb2); (try clear hk); (try clear hi)))); (go_ret2); (exact ⟨_, by first | rfl | (simp [errW_none, errW_some] <;> rfl) | (simp [*, errW_none, errW_some] <;> rfl), by first | exact Kd.R_nil _ _ _ _ _ | exact Kd.N_nil _ _ _ _ _ | exact Kd.V_nil _ _ _ _ _ | exact Kd.Q_nil _ _ _ _ _ | exact Kd.S_nil _ _ _ _ _, eI HB⟩)
/-! ### laws_eqIntS: function 21 -/
def laws_eqIntS.l0 : Nat → List Int → List Int → Int → Option (Bool)
 | 0, _, _, _ => none
 | k + 1, x0, x1, x5 => if x5 < (x0.length : Int) then (if 0 ≤ x5 then (if x5 < (x1.length : Int) then (if (rd x0 x5) = (rd x1 x5) then (laws_eqIntS.l0 k x0 x1 (wrap64 (x5 + 1))) else (some false)) else (none)) else (none)) else (some true)
def laws_eqIntS.f (k : Nat) (l0 : List Int) (l1 : List Int) : Option (Bool) := if (l0.length : Int) = (l1.length : Int) then (laws_eqIntS.l0 k l0 l1 0) else (some false)
set_option maxHeartbeats 8000000 in
set_option maxRecDepth 100000 in
theorem laws_eqIntS.calls (k : Nat) (A0 : Option Addr) (c0 : Nat) (l0 : List Int) (A1 : Option Addr) (c1 : Nat) (l1 : List Int) (r : Bool) (w : World) (hr0 : Kd.C (Kd.int .i64) w A0 l0.length l0) (hc0 : l0.length ≤ c0) (hr1 : Kd.C (Kd.int .i64) w A1 l1.length l1) (hc1 : l1.length ≤ c1) (h : laws_eqIntS.f k l0 l1 = some r) (ht_ : Aside0 (r = true)) :
  Calls Tryd.prog 21 #[.slice A0 l0.length c0, .slice A1 l1.length c1] w fun e w' => e = .returned (.bool r) ∧ Drawn0 w w' := by
 (have HR0 := Aside0.mk hr0); (have HC0 := Aside0.mk hc0); clear hr0 hc0; (have HR1 := Aside0.mk hr1); (have HC1 := Aside0.mk hc1); clear hr1 hc1; (unfold laws_eqIntS.f at h); (have H := h); clear h; (by_cases c3 : (l0.length : Int) = (l1.length : Int))
 ·rw [if_pos c3] at H
  (have c3b0 : ((l0.length : Int) == (l1.length : Int)) = true := beq_iff_eq.mpr c3); (have c3b1 : ((l0.length : Int) != (l1.length : Int)) = false := bne_eq_false_iff_eq.mpr c3); (have c3b2 : (l0.length == l1.length) = true := by first | simpa using c3 | (simp at c3 ⊢; omega)); clear c3; (have H' := Aside0.mk H); clear H; (go_enter Tryd.func21, Tryd.ntmps21); (go_wp2); (repeat (go_quiet (fail); try go_wp2)); (go_loopg [5] k (fun kq v5 w' => ∃ (x5_1 : Int), v5 = .int .i64 x5_1 ∧ Aside0 (laws_eqIntS.l0 kq l0 l1 x5_1 = some r) ∧ Aside0 (kq ≤ k) ∧ Drawn0 w w'))
  case atStart => exact ⟨(0), (by first | rfl | (simp; done) | (simp [*]; done)), H', ⟨Nat.le_refl _⟩, by repeat (first | exact Drawn0.refl _ | apply Drawn0.step)⟩
  case round =>
   (clear H'); (try clear c1); (try clear c2); (try clear p2); (try clear c3); (try clear c3b0); (try clear c3b1); (try clear c3b2); (obtain ⟨x5_1, rfl, HA, HK1, ⟨m1, rfl⟩⟩ := hrel)
   cases gk with
   | zero => exact absurd HA.out (by simp [laws_eqIntS.l0])
   | succ k1 =>
    (have H := HA.out); clear HA; (simp only [laws_eqIntS.l0] at H); (by_cases c4 : x5_1 < (l0.length : Int))
    ·rw [if_pos c4] at H
     (have c4b0 := decide_eq_true c4); clear c4; (by_cases c5 : 0 ≤ x5_1)
     ·rw [if_pos c5] at H
      (have c5b0 := decide_eq_true c5); clear c5; (by_cases c6 : x5_1 < (l1.length : Int))
      ·rw [if_pos c6] at H
       (have c6b0 := decide_eq_true c6); clear c6; (by_cases c7 : (rd l0 x5_1) = (rd l1 x5_1))
       ·rw [if_pos c7] at H
        (have c7b0 : ((rd l0 x5_1) == (rd l1 x5_1)) = true := beq_iff_eq.mpr c7); (have c7b1 : ((rd l0 x5_1) != (rd l1 x5_1)) = false := bne_eq_false_iff_eq.mpr c7); clear c7; (have H' := Aside0.mk H); clear H; (have p101 : 0 ≤ (x5_1 : Int) := odt); (have q101 : x5_1 < (l0.length : Int) := odt); (obtain ⟨ad101, e101, hx101_0⟩ := Kd.at_int HR0.out x5_1 p101 q101); (cases e101); (replace p101 := eq_true p101); (replace q101 := eq_true q101); (have p102 : 0 ≤ (x5_1 : Int) := odt); (have q102 : x5_1 < (l1.length : Int) := odt); (obtain ⟨ad102, e102, hx102_0⟩ := Kd.at_int HR1.out x5_1 p102 q102); (cases e102); (replace p102 := eq_true p102); (replace q102 := eq_true q102); (go_wp2); (repeat (go_quiet (fail); try go_wp2)); go_roundg k1
        case measure => have := HK1.out; omega
        case rel => exact ⟨(wrap64 (x5_1 + 1)), (by first | rfl | (simp; done) | (simp [*]; done)), H', ⟨by have := HK1.out; omega⟩, by repeat (first | exact Drawn0.refl _ | apply Drawn0.step)⟩
       ·rw [if_neg c7] at H
        (have c7b0 : ((rd l0 x5_1) == (rd l1 x5_1)) = false := beq_eq_false_iff_ne.mpr c7); (have c7b1 : ((rd l0 x5_1) != (rd l1 x5_1)) = true := bne_iff_ne.mpr c7); (obtain rfl := Option.some.inj H); (have p101 : 0 ≤ (x5_1 : Int) := odt); (have q101 : x5_1 < (l0.length : Int) := odt); (obtain ⟨ad101, e101, hx101_0⟩ := Kd.at_int HR0.out x5_1 p101 q101); (cases e101); (replace p101 := eq_true p101); (replace q101 := eq_true q101); (have p102 : 0 ≤ (x5_1 : Int) := odt); (have q102 : x5_1 < (l1.length : Int) := odt); (obtain ⟨ad102, e102, hx102_0⟩ := Kd.at_int HR1.out x5_1 p102 q102); (cases e102); (replace p102 := eq_true p102); (replace q102 := eq_true q102); (go_wp2); (repeat (go_quiet (fail); try go_wp2)); go_ret; (exact ⟨by first | rfl | (simp; done) | (simp [*]; done), by repeat (first | exact Drawn0.refl _ | apply Drawn0.step)⟩)
      ·rw [if_neg c6] at H
       exact absurd H (by simp)
     ·rw [if_neg c5] at H
      exact absurd H (by simp)
    ·rw [if_neg c4] at H
     (have c4b0 := decide_eq_false c4); clear c4; (obtain rfl := Option.some.inj H); (go_wp2); (repeat (go_quiet (fail); try go_wp2)); go_ret; (exact ⟨by first | rfl | (simp; done) | (simp [*]; done), by repeat (first | exact Drawn0.refl _ | apply Drawn0.step)⟩)
 ·rw [if_neg c3] at H
  (have c3b0 : ((l0.length : Int) == (l1.length : Int)) = false := beq_eq_false_iff_ne.mpr c3); (have c3b1 : ((l0.length : Int) != (l1.length : Int)) = true := bne_iff_ne.mpr c3); (have c3b2 : (l0.length == l1.length) = false := by first | simpa using c3 | (simp at c3 ⊢; omega)); (obtain rfl := Option.some.inj H); (exact absurd ht_.out (by decide))
/-! ### laws_markText: function 59 -/
def laws_markText.l0 : Nat → Int → ByteArray → Option (ByteArray)
 | 0, _, _ => none
 | k + 1, x0, x3 => if x0 > 0 then ((some (([(wrap64 (48 + (Int.tmod x0 10))) % 256] : List Int) : List Int)).bind fun y101 => (if (strOfNums y101).size + x3.size ≤ 9223372036854775807 then (laws_markText.l0 k (wrap64 (Int.tdiv x0 10)) ((strOfNums y101) ++ x3)) else (none))) else (if 1 + x3.size ≤ 9223372036854775807 then (some ((⟨#[109]⟩ : ByteArray) ++ x3)) else (none))
def laws_markText.f (k : Nat) (a0 : Int) : Option (ByteArray) := if a0 ≤ 0 then (some (⟨#[109, 48]⟩ : ByteArray)) else (laws_markText.l0 k a0 (⟨#[]⟩ : ByteArray))
set_option maxHeartbeats 8000000 in
set_option maxRecDepth 100000 in
theorem laws_markText.calls (k : Nat) (a0 : Int) (r : ByteArray) (w : World) (h : laws_markText.f k a0 = some r) :
  Calls Tryd.prog 59 #[.int .i64 a0] w fun e w' => e = .returned (.string r) ∧ Below w.heap.size w w' := by
 (have HB := Aside0.mk (Below.refl w.heap.size w)); (unfold laws_markText.f at h); (have H := h); clear h; (by_cases c2 : a0 ≤ 0); (· (rw [if_pos c2] at H); (have c2b0 := decide_eq_true c2); clear c2; (obtain rfl := Option.some.inj H); (go_enter Tryd.func59, Tryd.ntmps59); (go_wp2); go_ret; (exact ⟨rfl, eI HB⟩))
 ·rw [if_neg c2] at H
  (have c2b0 := decide_eq_false c2); clear c2; (have H' := Aside0.mk H); clear H; (go_enter Tryd.func59, Tryd.ntmps59); (go_wp2); (go_loopg [0, 3] k (fun kq v0 v3 w' => ∃ (x0_1 : Int) (x3_1 : ByteArray), v0 = .int .i64 x0_1 ∧ v3 = .string x3_1 ∧ Aside0 (laws_markText.l0 kq x0_1 x3_1 = some r) ∧ Aside0 (kq ≤ k) ∧ Aside0 (Below w.heap.size w w')))
  case atStart => exact ⟨(a0), ((⟨#[]⟩ : ByteArray)), (by first | rfl | (simp; done) | (simp [*]; done)), (by first | rfl | (simp; done) | (simp [*]; done)), H', ⟨Nat.le_refl _⟩, ⟨eI HB⟩⟩
  case round =>
   (clear H'); (try clear c2); (try clear c2b0); (try clear p2); (obtain ⟨x0_1, x3_1, rfl, rfl, HA, HK1, HB⟩ := hrel)
   cases gk with
   | zero => exact absurd HA.out (by simp [laws_markText.l0])
   | succ k1 =>
    (have H := HA.out); clear HA; (simp only [laws_markText.l0] at H); (by_cases c3 : x0_1 > 0)
    ·rw [if_pos c3] at H
     (have c3b0 : decide (0 < x0_1) = true := decide_eq_true c3); clear c3; (obtain ⟨y101, hy101⟩ : ∃ y_ : List Int, y_ = (([(wrap64 (48 + (Int.tmod x0_1 10))) % 256] : List Int)) := ⟨_, rfl⟩); (replace H : (if (strOfNums y101).size + x3_1.size ≤ 9223372036854775807 then (laws_markText.l0 k1 (wrap64 (Int.tdiv x0_1 10)) ((strOfNums y101) ++ x3_1)) else (none)) = some r := by first | (rw [hy101]; with_reducible exact H) | (have H2_ := (Option.bind_some _ _).symm.trans H; rw [hy101]; with_reducible exact H2_) | (have H2_ := (Option.bind_some _ _).symm.trans H; with_reducible exact H2_) | with_reducible exact H | (rw [hy101]; exact H) | exact H); (have Ny101 := Aside0.mk hy101); clear hy101; (by_cases c4 : (strOfNums y101).size + x3_1.size ≤ 9223372036854775807)
     ·rw [if_pos c4] at H
      (have c4b0 := eq_true c4); (have c4b1 := decide_eq_true c4); (try have c4b2 : (9223372036854775807 < (strOfNums y101).size + x3_1.size) = False := eq_false (Nat.not_lt.2 c4)); (have H' := Aside0.mk H); clear H; (go_wp2_with (first | ((with_reducible refine gate_dst (N := 12) rfl ?_); refine Kd.R_lit (Kd.int .u8) _ 5 ?hg (N := 12) ?hd (xs := ([(wrap64 (48 + (Int.tmod x0_1 10))) % 256] : List Int)) (inner := [.int .u8 ((wrap64 (48 + (Int.tmod x0_1 10))) % 256)]) (ok := fun _ => True) (okp := fun _ => True) ?hr ?hp (fun _ hk => hk) trivial (Below.refl _ _) (Nat.le_refl _) (by simp) ?_; (case hd => rfl); (case hg => rfl); (case hr => first | (go_simp; done) | (go_simp; rfl)); (case hp => exact (Reps.one (show Kd.M (Kd.int .u8) _ _ _ ((wrap64 (48 + (Int.tmod x0_1 10))) % 256) [.int .u8 ((wrap64 (48 + (Int.tmod x0_1 10))) % 256)] from rfl) (Reps.none _ _))); intro v102 w5 ho6 hb hg_ hnew_; clear hg_ hnew_; (first | rw [← Ny101.out] at ho6 | (simp only [Int.reduceToNat] at ho6; rw [← Ny101.out] at ho6)); have hB_ := zI hb HB; have n0_ := Aside0.mk (Kd.R_lower ho6 (below_size hB_)); have n1_ := Aside0.mk (below_step hB_ hb); clear HB; have HO103 := n0_; have HB := n1_; clear n0_ n1_ hB_ hb ho6; have hcv7 := own_string (P := Tryd.prog) Tryd.underlying45 Tryd.underlying5 Tryd.underlying9 (Kd.own_of_R HO103.out)))); go_roundg k1
      case measure => have := HK1.out; omega
      case rel => exact ⟨(wrap64 (Int.tdiv x0_1 10)), ((strOfNums y101) ++ x3_1), (by first | rfl | (simp; done) | (simp [*]; done)), (by first | rfl | (simp; done) | (simp [*]; done)), H', ⟨by have := HK1.out; omega⟩, ⟨eI HB⟩⟩
     ·rw [if_neg c4] at H
      exact absurd H (by simp)
    ·rw [if_neg c3] at H
     (have c3b0 : decide (0 < x0_1) = false := decide_eq_false c3); clear c3; (by_cases c8 : 1 + x3_1.size ≤ 9223372036854775807); (· (rw [if_pos c8] at H); (have c8b0 := eq_true c8); (have c8b1 := decide_eq_true c8); (try have c8b2 : (9223372036854775807 < 1 + x3_1.size) = False := eq_false (Nat.not_lt.2 c8)); (obtain rfl := Option.some.inj H); (go_wp2); go_ret; (exact ⟨rfl, eI HB⟩)); (· (rw [if_neg c8] at H); (exact absurd H (by simp)))
/-! ### laws_markStringS: function 60 -/
def laws_markStringS.l0 : Nat → List ByteArray → Int → Int → Option (Int × List ByteArray)
 | 0, _, _, _ => none
 | k + 1, x0, x1, x5 => if x5 < (x0.length : Int) then ((laws_markText.f k x1).bind fun t101 => (if 0 ≤ x5 then (laws_markStringS.l0 k (x0.set (x5 : Int).toNat t101) (wrap64 (x1 + 1)) (wrap64 (x5 + 1))) else (none))) else (some (x1, x0))
def laws_markStringS.f (k : Nat) (l0 : List ByteArray) (a1 : Int) : Option (Int × List ByteArray) := laws_markStringS.l0 k l0 a1 0
set_option maxHeartbeats 8000000 in
set_option maxRecDepth 100000 in
theorem laws_markStringS.calls (k : Nat) (P0_ : Nat → Prop) (u9000_ : Value) (l0 : List ByteArray) (a1 : Int) (r1 : Int) (r2 : List ByteArray) (w0 w : World) (hB : Below w0.heap.size w0 w) (ho0 : Kd.R Kd.string 9 w w0.heap.size P0_ u9000_ l0) (h : laws_markStringS.f k l0 a1 = some (r1, r2)) :
  Calls Tryd.prog 60 #[u9000_, .int .i64 a1] w fun e w' => e = .returned (.int .i64 r1) ∧ Kd.R Kd.string 9 w' w0.heap.size (fun k_ => (P0_ k_ ∨ w.heap.size ≤ k_)) u9000_ r2 ∧ Below w0.heap.size w0 w' ∧ Kept w w' (fun k_ => P0_ k_) := by
 (have HO0 := Aside0.mk (show Kd.R Kd.string 9 w w0.heap.size (fun k_ => (P0_ k_ ∨ w.heap.size ≤ k_)) u9000_ l0 from Kd.R_mono ho0 (fun k_ hk => (.inl hk)))); (have HK := Aside0.mk (Kept.refl w (fun k_ => P0_ k_))); (have HW0 := Aside0.mk hB.size); (have HB := Aside0.mk hB); clear hB; (unfold laws_markStringS.f at h); (have H := h); clear h; (have H' := Aside0.mk H); clear H; (go_enter Tryd.func60, Tryd.ntmps60); (go_wp2); (go_loopg [1, 5] k (fun kq v1 v5 w' => ∃ (x0_1 : List ByteArray) (x1_1 : Int) (x5_1 : Int), v1 = .int .i64 x1_1 ∧ v5 = .int .i64 x5_1 ∧ Aside0 (laws_markStringS.l0 kq x0_1 x1_1 x5_1 = some (r1, r2)) ∧ Aside0 (kq ≤ k) ∧ Aside0 (Kd.R Kd.string 9 w' w0.heap.size (fun k_ => (P0_ k_ ∨ w.heap.size ≤ k_)) u9000_ x0_1) ∧ Aside0 (Kept w w' (fun k_ => P0_ k_)) ∧ Aside0 (Below w0.heap.size w0 w')))
 case atStart => exact ⟨(l0), (a1), (0), (by first | rfl | (simp; done) | (simp [*]; done)), (by first | rfl | (simp; done) | (simp [*]; done)), H', ⟨Nat.le_refl _⟩, ⟨rI HO0⟩, ⟨by repeat (first | (with_reducible first | exact HK.out | apply Kept.alloc | apply Kept.drewN | apply Kept.drew) | exact HK.out)⟩, ⟨eI HB⟩⟩
 case round =>
  (clear H'); (try clear p2); (obtain ⟨x0_1, x1_1, x5_1, rfl, rfl, HA, HK1, HO_0, HK, HB⟩ := hrel)
  cases gk with
  | zero => exact absurd HA.out (by simp [laws_markStringS.l0])
  | succ k1 =>
   (have H := HA.out); clear HA; (simp only [laws_markStringS.l0] at H); (by_cases c3 : x5_1 < (x0_1.length : Int))
   ·rw [if_pos c3] at H
    (have c3b0 := decide_eq_true c3); clear c3; (replace H := obS H); (obtain ⟨t101, A4, H⟩ := H); (by_cases c5 : 0 ≤ x5_1)
    ·rw [if_pos c5] at H
     (have c5b0 := decide_eq_true c5); clear c5; (obtain ⟨y102, hy102⟩ : ∃ y_ : List ByteArray, y_ = (x0_1.set (x5_1 : Int).toNat t101) := ⟨_, rfl⟩); (replace H : (laws_markStringS.l0 k1 y102 (wrap64 (x1_1 + 1)) (wrap64 (x5_1 + 1))) = some (r1, r2) := by first | (rw [hy102]; with_reducible exact H) | (have H2_ := (Option.bind_some _ _).symm.trans H; rw [hy102]; with_reducible exact H2_) | (have H2_ := (Option.bind_some _ _).symm.trans H; with_reducible exact H2_) | with_reducible exact H | (rw [hy102]; exact H) | exact H); (have Ny102 := Aside0.mk hy102); clear hy102; (have H' := Aside0.mk H); clear H; (obtain ⟨Ao7, co7, eo7⟩ := Kd.R_slice HO_0.out); subst eo7; (go_wp2_with (first | ((with_reducible refine gate_callee (f := 59) rfl ?_); refine gL (some 15) Tryd.func59 #[.int .i64 x1_1] ?_; (with_reducible refine (laws_markText.calls k1 x1_1 t101 _ A4.out).mono ?_); rintro e w8 ⟨rfl, hb⟩; refine ⟨_, rfl, ?_⟩; have n0_ := Aside0.mk (rbI hb HO_0); have n1_ := Aside0.mk (Kept.below (S := (fun k_ => P0_ k_)) (by repeat (first | (with_reducible first | exact HK.out | apply Kept.alloc | apply Kept.drewN | apply Kept.drew) | exact HK.out)) hb); have n2_ := Aside0.mk (sI hb HB); clear HO_0 HK HB; have HO_0 := n0_; have HK := n1_; have HB := n2_; clear n0_ n1_ n2_; (try clear hb); (try clear hb2); (try clear hk); (try clear hi); have p6 : 0 ≤ (x5_1 : Int) := odt; have q6 : (x5_1 : Int) < ((x0_1.length : Int) : Int) := odt; obtain ⟨go6, co6, eo6, gb6, gl6, cl6, HG6⟩ := Kd.R_form HO_0.out (by omega); (first | cases eo6 | (injection eo6 with ea_ en_ ec_; (first | subst ea_ | (injection ea_ with ea_; subst ea_)); subst ec_; clear en_)); have GB6 := Aside0.mk gb6; have GG6 := Aside0.mk HG6; clear gb6 gl6 HG6; have HMgo6 := Aside0.mk (show (P0_ go6 ∨ w.heap.size ≤ go6) from (HO_0.out.1 _ rfl)); obtain ⟨hx6_0, hf6_0⟩ := Kd.R_celln (⟨#[]⟩ : ByteArray) HO_0.out (x5_1 : Int) p6 q6; replace p6 := eq_true p6; replace q6 := eq_true q6; obtain ⟨hy9_, hz9_⟩ := Kd.R_celln (⟨#[]⟩ : ByteArray) HO_0.out (x5_1 : Int) odt odt; have HP9 := Kd.R_putg HO_0.out (x5_1 : Int) t101) | ((with_reducible refine gate_store (t := 9) (p := 16) rfl ?_); refine store_event (t := 9) (p := 16) (v := ?vo_w10) (w1 := (w8.setCell ⟨go6, (x5_1 : Int).toNat, none⟩ (.string t101))) ?hg ?ho ?hn ?hr ?_; (case ho => rfl); (case hg => rfl); (case hn => rfl); (case hr => first | (go_simp; done) | (go_simp; rfl)); intro w10 hw; have hg : w8.grownBy w10 (some go6) := (by rw [hw]; exact HP9.2); have hp_ : Kd.R Kd.string 9 w10 w0.heap.size (fun k_ => (P0_ k_ ∨ w.heap.size ≤ k_)) (.slice (some ⟨go6, 0, none⟩) x0_1.length co7) y102 := (by rw [hw, Ny102.out]; exact HP9.1); clear HP9; have n0_ := Aside0.mk (hp_); have n1_ := Aside0.mk ((by rw [hw]; exact below_set (HB.out) GB6.out : Below w0.heap.size w0 w10)); have n2_ := Aside0.mk (Kept.of_grown (S := (fun k_ => P0_ k_)) hg (by repeat (first | (with_reducible first | exact HK.out | apply Kept.alloc | apply Kept.drewN | apply Kept.drew) | exact HK.out)) (fun k_ e_ => (HO_0.out.1 k_ e_))); clear HO_0 HB HK; have HO_0 := n0_; have HB := n1_; have HK := n2_; clear n0_ n1_ n2_ hg hw hp_))); go_roundg k1
     case measure => have := HK1.out; omega
     case rel => exact ⟨(y102), (wrap64 (x1_1 + 1)), (wrap64 (x5_1 + 1)), (by first | rfl | (simp; done) | (simp [*]; done)), (by first | rfl | (simp; done) | (simp [*]; done)), H', ⟨by have := HK1.out; omega⟩, ⟨rI HO_0⟩, ⟨by repeat (first | (with_reducible first | exact HK.out | apply Kept.alloc | apply Kept.drewN | apply Kept.drew) | exact HK.out)⟩, ⟨eI HB⟩⟩
    ·rw [if_neg c5] at H
     exact absurd H (by simp)
   ·rw [if_neg c3] at H
    (have c3b0 := decide_eq_false c3); clear c3; (simp only [Option.some.injEq, Prod.mk.injEq] at H); (obtain ⟨rfl, rfl⟩ := H); (obtain ⟨Ao11, co11, eo11⟩ := Kd.R_slice HO_0.out); subst eo11; (go_wp2); go_ret; (exact ⟨rfl, rI HO_0, eI HB, by repeat (first | (with_reducible first | exact HK.out | apply Kept.alloc | apply Kept.drewN | apply Kept.drew) | exact HK.out)⟩)

end Go.Proofs.YtdogpphfofimeaaDoor.X
set_option linter.unusedVariables false
set_option linter.unusedSimpArgs false
namespace Go.Proofs.YtdogpphfofimeaaDoor.X
open Go.RowKit Go.Proofs.YtdogpphfofimeaaDoorW.PrintWords
section
variable {α : Type} {d : Kd α} {e base n cap g m : Nat} {ok : Nat → Prop} {W : World} {xs : List α} {x x' z : α} {i : Int}
theorem S_at (h : Kd.S d e W base ok (.slice (some ⟨g, 0, none⟩) n cap) (xs.set i.toNat x)) (h0 : 0 ≤ i) (h1 : i < xs.length) (hs : d.sz = m) :
    ∃ (oki : Nat → Prop) (c : List Value), c.length = m ∧ d.M W base oki x c ∧ (∀ j u, c[j]? = some u → W.cell? ⟨g, i.toNat * m + j, none⟩ = some u) ∧ (∀ j, W.frozen? ⟨g, i.toNat * m + j, none⟩ = false) ∧ (∀ k, oki k → ok k ∧ k ≠ g) ∧ Kd.H d e W base ok (.slice (some ⟨g, 0, none⟩) n cap) (xs.set i.toNat x) i oki c := by
  subst hs
  have hn := (Kd.R_reads' (Kd.S_R h)).1
  rw [List.length_set] at hn
  obtain ⟨oki, c, a, b, c1, d1, e1, f1⟩ := Kd.S_elem h x i h0 (by omega)
  have hx : (xs.set i.toNat x).getD i.toNat x = x := by rw [List.getD_eq_getElem?_getD, List.getElem?_set_self (by omega)]; rfl
  rw [hx] at b
  exact ⟨oki, c, a, b, c1, d1, e1, f1⟩
/-- A field of element i is written. -/
theorem S_fld (h : Kd.S d e W base ok (.slice (some ⟨g, 0, none⟩) n cap) (xs.set i.toNat x)) (h0 : 0 ≤ i) (h1 : i < xs.length) (hs : d.sz = m) (j : Nat) (hj : j + 1 ≤ m) (x' : α) (u : Value)
    (hM : ∀ (oki : Nat → Prop) (c : List Value), d.M W base oki x c → d.M W base oki x' (c.take j ++ [u] ++ c.drop (j + 1))) :
    Kd.S d e (W.setCell ⟨g, i.toNat * m + j, none⟩ u) base ok (.slice (some ⟨g, 0, none⟩) n cap) (xs.set i.toNat x') ∧ W.grownBy (W.setCell ⟨g, i.toNat * m + j, none⟩ u) (some g) := by
  subst hs
  have hn := (Kd.R_reads' (Kd.S_R h)).1
  rw [List.length_set] at hn
  obtain ⟨oki, c, hcl, hMc, hcc, hfr, hoki, hH⟩ := S_at h h0 h1 rfl
  have h2 := Kd.S_seg0 hH h0 (by omega) (seg := [u]) (j := j) hj (hM oki c hMc) (fun _ hk => hk)
  rw [List.set_set] at h2
  exact h2
/-- What element i leads to is lent to a call that writes it. -/
theorem S_in (h : Kd.S d e W base ok (.slice (some ⟨g, 0, none⟩) n cap) (xs.set i.toNat x)) (h0 : 0 ≤ i) (h1 : i < xs.length) (hs : d.sz = m) (hnew : ∀ k, W.heap.size ≤ k → ok k) :
    ∃ (oki : Nat → Prop) (c : List Value), c.length = m ∧ d.M W base oki x c ∧ (∀ j u, c[j]? = some u → W.cell? ⟨g, i.toNat * m + j, none⟩ = some u) ∧ (∀ k, oki k → ok k ∧ k ≠ g) ∧
      ∀ (w1 : World) (x' : α), Kept W w1 oki → d.M w1 base (fun k => oki k ∨ W.heap.size ≤ k) x' c → Kd.S d e w1 base ok (.slice (some ⟨g, 0, none⟩) n cap) (xs.set i.toNat x') := by
  obtain ⟨oki, c, hcl, hMc, hcc, hfr, hoki, hH⟩ := S_at h h0 h1 hs
  refine ⟨oki, c, hcl, hMc, hcc, hoki, fun w1 x' hk hM => ?_⟩
  have h2 := Kd.H_step (w1 := w1) (Kd.H_widen hH) (fun k ho hn hlt => hk.2 k hlt (fun hk2 => hn (.inl hk2)))
  have h3 := Kd.H_back h2 hM (fun k hk2 => hk2.elim .inl (fun hle => .inr ⟨hnew k hle, hle⟩))
  rw [List.set_set] at h3
  exact h3
theorem set_getD (xs : List α) (i : Nat) (z : α) (h : i < xs.length) : xs.set i (xs.getD i z) = xs := by
  rw [List.getD_eq_getElem?_getD, List.getElem?_eq_getElem h]
  exact List.set_getElem_self h
end
end Go.Proofs.YtdogpphfofimeaaDoor.X
namespace Go.Proofs.YtdogpphfofimeaaDoor.X
open Go.RowKit Go.Proofs.YtdogpphfofimeaaDoorW.PrintWords Go.Proofs.YtdogpphfofimeaaDoorW.PrintLast Go.Proofs.YtdogpphfofimeaaDoorW.PrintMore Go.Proofs.YtdogpphfofimeaaDoor.E
attribute [local go_sem] max2_int min2_int max_two min_two max_three min_three max_four min_four   -- for this text's walks alone
set_option linter.unusedVariables false
set_option linter.unusedSimpArgs false
attribute [-simp] ByteArray.size_append ByteArray.size_extract
attribute [-go_sem] ByteArray.size_append'

/-! ### laws_markFieldS: function 22 -/
/-- Marks, record by record; the inner row of a record is marked by its own function. -/
def laws_markFieldS.l0 : Nat → List S69 → Int → Int → Option (Int × List S69)
 | 0, _, _, _ => none
 | k + 1, x0, x1, x5 => if x5 < (x0.length : Int) then (if 0 ≤ x5 then ((laws_markText.f k (x1)).bind fun t0 => ((laws_markStringS.f k ((rd_T69 x0 x5).f4) (wrap64 ((wrap64 ((wrap64 ((wrap64 (x1 + 1)) + 1)) + 1)) + 1))).bind fun t4 => ((laws_markText.f k (wrap64 (t4.1 + 1))).bind fun t6 => laws_markFieldS.l0 k (x0.set x5.toNat (⟨t0, wrap64 (x1 + 1), wrap64 ((wrap64 (x1 + 1)) + 1), wrap64 ((wrap64 ((wrap64 (x1 + 1)) + 1)) + 1), t4.2, (Int.tmod (t4.1) 3 == 0), t6⟩ : S69)) (wrap64 ((wrap64 (t4.1 + 1)) + 1)) (wrap64 (x5 + 1))))) else none) else some (x1, x0)
def laws_markFieldS.f (k : Nat) (l0 : List S69) (a1 : Int) : Option (Int × List S69) := laws_markFieldS.l0 k l0 a1 0
set_option maxHeartbeats 8000000 in
set_option maxRecDepth 100000 in
theorem laws_markFieldS.calls (k : Nat) (P0_ : Nat → Prop) (u9000_ : Value) (l0 : List (S69)) (a1 : Int) (r1 : Int) (r2 : List (S69)) (w0 w : World) (hB : Below w0.heap.size w0 w) (ho0 : Kd.S k69 69 w w0.heap.size P0_ u9000_ l0) (h : laws_markFieldS.f k l0 a1 = some (r1, r2)) :
  Calls Tryd.prog 22 #[u9000_, .int .i64 a1] w fun e w' => e = .returned (.int .i64 r1) ∧ Kd.S k69 69 w' w0.heap.size (fun k_ => (P0_ k_ ∨ w.heap.size ≤ k_)) u9000_ r2 ∧ Below w0.heap.size w0 w' ∧ Kept w w' (fun k_ => P0_ k_) := by
 (have HO := Aside0.mk (Kd.S_mono (ok' := (fun k_ => (P0_ k_ ∨ w.heap.size ≤ k_))) ho0 (fun k_ hk => .inl hk))); (have HK := Aside0.mk (Kept.refl w (fun k_ => P0_ k_))); (have HP0 := Aside0.mk ho0); (have HB := Aside0.mk hB); (have H := Aside0.mk h); clear h hB ho0; (obtain ⟨A_, c_, e_⟩ := Kd.R_slice (Kd.S_R HO.out)); subst e_; (have HN := Aside0.mk (rfl : l0.length = l0.length)); (go_enter Tryd.func22, Tryd.ntmps22); (go_wp2); (go_loopg [1, 5] k (fun kq v1 v5 w' => ∃ (x0 : List (S69)) (x1 x5 : Int), v1 = .int .i64 x1 ∧ v5 = .int .i64 x5 ∧ Aside0 (laws_markFieldS.l0 kq x0 x1 x5 = some (r1, r2)) ∧ Aside0 (kq ≤ k) ∧ Aside0 (x0.length = l0.length) ∧ Aside0 (Kd.S k69 69 w' w0.heap.size (fun k_ => (P0_ k_ ∨ w.heap.size ≤ k_)) (.slice A_ l0.length c_) x0) ∧ Aside0 (Kept w w' (fun k_ => P0_ k_)) ∧ Aside0 (Below w0.heap.size w0 w')))
 case atStart => exact ⟨l0, a1, 0, rfl, rfl, H, ⟨Nat.le_refl _⟩, ⟨rfl⟩, HO, HK, HB⟩
 case round =>
  obtain ⟨x0, x1, x5, rfl, rfl, HA, HK1, HN1, HO, HK, HB⟩ := hrel
  cases gk with
  | zero => exact absurd HA.out (by simp [laws_markFieldS.l0])
  | succ k1 =>
   (have H := HA.out); clear HA; (simp only [laws_markFieldS.l0] at H); (have hn := HN1.out); (by_cases c3 : x5 < (x0.length : Int))
   ·rw [if_pos c3] at H
    by_cases c5 : 0 ≤ x5
    ·rw [if_pos c5] at H
     (obtain ⟨t0, A0, H⟩ := obS H); (obtain ⟨⟨t4a, t4b⟩, A1, H⟩ := obS H); (obtain ⟨t6, A2, H⟩ := obS H); (have H' := Aside0.mk H); clear H
     have hA : ∃ g, A_ = some ⟨g, 0, none⟩ := by
      (obtain ⟨g, cap, e, _⟩ := Kd.R_form (Kd.S_R HO.out) (by omega)); (injection e with e _ _); (exact ⟨g, e⟩)
     (obtain ⟨g, rfl⟩ := hA); (have HG := Aside0.mk (show P0_ g from HP0.out.elim (fun f hf => hf.1 g (by simp [Value.ownBlock])))); (have HGW := Aside0.mk (Kd.S_base HO.out g (by simp [Value.ownBlock]))); (have hln : (l0.length : Int) = (x0.length : Int) := by omega); (have HI := Aside0.mk (show 0 ≤ x5 ∧ x5 < x0.length ∧ x5 < l0.length from ⟨c5, c3, by omega⟩)); (have HNW := Aside0.mk HK.out.1); (have HX := Aside0.mk (show Kd.S k69 69 wr w0.heap.size (fun k_ => (P0_ k_ ∨ w.heap.size ≤ k_)) (.slice (some ⟨g, 0, none⟩) l0.length c_) (x0.set x5.toNat (rd_T69 x0 x5)) from by unfold rd_T69; rw [set_getD _ _ _ (by omega)]; exact HO.out)); (have p1 : decide (x5 < (l0.length : Int)) = true := decide_eq_true (by omega)); (have p2 : (0 ≤ x5) = True := eq_true c5); (have p3 : (x5 < (l0.length : Int)) = True := eq_true (by omega)); clear c3 c5 hn hln HO
     go_wp2_with (first | ((with_reducible refine gate_callee (f := 59) rfl ?_); refine gL (some 15) Tryd.func59 #[.int .i64 (x1)] ?_; (with_reducible refine (laws_markText.calls k1 (x1) t0 _ A0.out).mono ?_); rintro e w1_ ⟨rfl, hb⟩; refine ⟨_, rfl, ?_⟩; have n0_ := Aside0.mk (Kd.S_below HX.out hb); have n1_ := Aside0.mk (Kept.below HK.out hb); have n2_ := Aside0.mk (below_then HB.out HB.out.size hb); clear HX HK HB hb; have HX := n0_; have HK := n1_; have HB := n2_; clear n0_ n1_ n2_) | ((with_reducible refine gate_store (t := 9) (p := 17) rfl ?_); have hx := S_at HX.out HI.out.1 HI.out.2.1 (show (k69).sz = 7 from rfl); obtain ⟨okj, cj, _, hMj, hcj, hfj, _⟩ := hx; obtain ⟨v4, ec, _⟩ := k69_openM hMj; subst ec; have hx1 := hcj 0 _ rfl; have hf1 := hfj 0; clear hMj hcj hfj; rw [Nat.add_zero] at hx1 hf1; refine store_event (t := 9) (p := 17) (v := ?vo17) (w1 := w1_.setCell ⟨g, x5.toNat * 7, none⟩ (.string (t0))) ?hg ?ho ?hn ?hr ?_; (case ho => rfl); (case hg => rfl); (case hn => rfl); (case hr => first | (go_simp; done) | (go_simp; rfl)); intro w2_ hw; clear hx1 hf1; have HP := S_fld HX.out HI.out.1 HI.out.2.1 (show (k69).sz = 7 from rfl) 0 (by decide) (⟨t0, (rd_T69 x0 x5).f1, (rd_T69 x0 x5).f2, (rd_T69 x0 x5).f3, (rd_T69 x0 x5).f4, (rd_T69 x0 x5).f5, (rd_T69 x0 x5).f6⟩ : S69) (.string (t0)) (fun oki c hM => by obtain ⟨v4, rfl, hr⟩ := k69_openM hM; exact k69_mkM _ _ _ (⟨t0, (rd_T69 x0 x5).f1, (rd_T69 x0 x5).f2, (rd_T69 x0 x5).f3, (rd_T69 x0 x5).f4, (rd_T69 x0 x5).f5, (rd_T69 x0 x5).f6⟩ : S69) hr); have n0_ := Aside0.mk (show Kd.S k69 69 w2_ w0.heap.size (fun k_ => (P0_ k_ ∨ w.heap.size ≤ k_)) (.slice (some ⟨g, 0, none⟩) l0.length c_) (x0.set x5.toNat (⟨t0, (rd_T69 x0 x5).f1, (rd_T69 x0 x5).f2, (rd_T69 x0 x5).f3, (rd_T69 x0 x5).f4, (rd_T69 x0 x5).f5, (rd_T69 x0 x5).f6⟩ : S69)) from by rw [hw]; exact HP.1); have n1_ := Aside0.mk (show Kept w w2_ (fun k_ => P0_ k_) from by rw [hw]; exact Kept.of_grown HP.2 HK.out (fun k_ hk => by injection hk with hk; subst hk; exact Or.inl HG.out)); have n2_ := Aside0.mk (show Below w0.heap.size w0 w2_ from by rw [hw]; exact below_set HB.out HGW.out); clear HX HK HB hw HP; have HX := n0_; have HK := n1_; have HB := n2_; clear n0_ n1_ n2_) | ((with_reducible refine gate_store (t := 3) (p := 24) rfl ?_); have hx := S_at HX.out HI.out.1 HI.out.2.1 (show (k69).sz = 7 from rfl); obtain ⟨okj, cj, _, hMj, hcj, hfj, _⟩ := hx; obtain ⟨v4, ec, _⟩ := k69_openM hMj; subst ec; have hx1 := hcj 1 _ rfl; have hf1 := hfj 1; clear hMj hcj hfj; refine store_event (t := 3) (p := 24) (v := ?vo24) (w1 := w2_.setCell ⟨g, x5.toNat * 7 + 1, none⟩ (.int .i64 (wrap64 (x1 + 1)))) ?hg ?ho ?hn ?hr ?_; (case ho => rfl); (case hg => rfl); (case hn => rfl); (case hr => first | (go_simp; done) | (go_simp; rfl)); intro w3_ hw; clear hx1 hf1; have HP := S_fld HX.out HI.out.1 HI.out.2.1 (show (k69).sz = 7 from rfl) 1 (by decide) (⟨t0, wrap64 (x1 + 1), (rd_T69 x0 x5).f2, (rd_T69 x0 x5).f3, (rd_T69 x0 x5).f4, (rd_T69 x0 x5).f5, (rd_T69 x0 x5).f6⟩ : S69) (.int .i64 (wrap64 (x1 + 1))) (fun oki c hM => by obtain ⟨v4, rfl, hr⟩ := k69_openM hM; exact k69_mkM _ _ _ (⟨t0, wrap64 (x1 + 1), (rd_T69 x0 x5).f2, (rd_T69 x0 x5).f3, (rd_T69 x0 x5).f4, (rd_T69 x0 x5).f5, (rd_T69 x0 x5).f6⟩ : S69) hr); have n0_ := Aside0.mk (show Kd.S k69 69 w3_ w0.heap.size (fun k_ => (P0_ k_ ∨ w.heap.size ≤ k_)) (.slice (some ⟨g, 0, none⟩) l0.length c_) (x0.set x5.toNat (⟨t0, wrap64 (x1 + 1), (rd_T69 x0 x5).f2, (rd_T69 x0 x5).f3, (rd_T69 x0 x5).f4, (rd_T69 x0 x5).f5, (rd_T69 x0 x5).f6⟩ : S69)) from by rw [hw]; exact HP.1); have n1_ := Aside0.mk (show Kept w w3_ (fun k_ => P0_ k_) from by rw [hw]; exact Kept.of_grown HP.2 HK.out (fun k_ hk => by injection hk with hk; subst hk; exact Or.inl HG.out)); have n2_ := Aside0.mk (show Below w0.heap.size w0 w3_ from by rw [hw]; exact below_set HB.out HGW.out); clear HX HK HB hw HP; have HX := n0_; have HK := n1_; have HB := n2_; clear n0_ n1_ n2_) | ((with_reducible refine gate_store (t := 3) (p := 31) rfl ?_); have hx := S_at HX.out HI.out.1 HI.out.2.1 (show (k69).sz = 7 from rfl); obtain ⟨okj, cj, _, hMj, hcj, hfj, _⟩ := hx; obtain ⟨v4, ec, _⟩ := k69_openM hMj; subst ec; have hx1 := hcj 2 _ rfl; have hf1 := hfj 2; clear hMj hcj hfj; refine store_event (t := 3) (p := 31) (v := ?vo31) (w1 := w3_.setCell ⟨g, x5.toNat * 7 + 2, none⟩ (.int .i64 (wrap64 ((wrap64 (x1 + 1)) + 1)))) ?hg ?ho ?hn ?hr ?_; (case ho => rfl); (case hg => rfl); (case hn => rfl); (case hr => first | (go_simp; done) | (go_simp; rfl)); intro w4_ hw; clear hx1 hf1; have HP := S_fld HX.out HI.out.1 HI.out.2.1 (show (k69).sz = 7 from rfl) 2 (by decide) (⟨t0, wrap64 (x1 + 1), wrap64 ((wrap64 (x1 + 1)) + 1), (rd_T69 x0 x5).f3, (rd_T69 x0 x5).f4, (rd_T69 x0 x5).f5, (rd_T69 x0 x5).f6⟩ : S69) (.int .i64 (wrap64 ((wrap64 (x1 + 1)) + 1))) (fun oki c hM => by obtain ⟨v4, rfl, hr⟩ := k69_openM hM; exact k69_mkM _ _ _ (⟨t0, wrap64 (x1 + 1), wrap64 ((wrap64 (x1 + 1)) + 1), (rd_T69 x0 x5).f3, (rd_T69 x0 x5).f4, (rd_T69 x0 x5).f5, (rd_T69 x0 x5).f6⟩ : S69) hr); have n0_ := Aside0.mk (show Kd.S k69 69 w4_ w0.heap.size (fun k_ => (P0_ k_ ∨ w.heap.size ≤ k_)) (.slice (some ⟨g, 0, none⟩) l0.length c_) (x0.set x5.toNat (⟨t0, wrap64 (x1 + 1), wrap64 ((wrap64 (x1 + 1)) + 1), (rd_T69 x0 x5).f3, (rd_T69 x0 x5).f4, (rd_T69 x0 x5).f5, (rd_T69 x0 x5).f6⟩ : S69)) from by rw [hw]; exact HP.1); have n1_ := Aside0.mk (show Kept w w4_ (fun k_ => P0_ k_) from by rw [hw]; exact Kept.of_grown HP.2 HK.out (fun k_ hk => by injection hk with hk; subst hk; exact Or.inl HG.out)); have n2_ := Aside0.mk (show Below w0.heap.size w0 w4_ from by rw [hw]; exact below_set HB.out HGW.out); clear HX HK HB hw HP; have HX := n0_; have HK := n1_; have HB := n2_; clear n0_ n1_ n2_) | ((with_reducible refine gate_store (t := 3) (p := 38) rfl ?_); have hx := S_at HX.out HI.out.1 HI.out.2.1 (show (k69).sz = 7 from rfl); obtain ⟨okj, cj, _, hMj, hcj, hfj, _⟩ := hx; obtain ⟨v4, ec, _⟩ := k69_openM hMj; subst ec; have hx1 := hcj 3 _ rfl; have hf1 := hfj 3; clear hMj hcj hfj; refine store_event (t := 3) (p := 38) (v := ?vo38) (w1 := w4_.setCell ⟨g, x5.toNat * 7 + 3, none⟩ (.int .i64 (wrap64 ((wrap64 ((wrap64 (x1 + 1)) + 1)) + 1)))) ?hg ?ho ?hn ?hr ?_; (case ho => rfl); (case hg => rfl); (case hn => rfl); (case hr => first | (go_simp; done) | (go_simp; rfl)); intro w5_ hw; clear hx1 hf1; have HP := S_fld HX.out HI.out.1 HI.out.2.1 (show (k69).sz = 7 from rfl) 3 (by decide) (⟨t0, wrap64 (x1 + 1), wrap64 ((wrap64 (x1 + 1)) + 1), wrap64 ((wrap64 ((wrap64 (x1 + 1)) + 1)) + 1), (rd_T69 x0 x5).f4, (rd_T69 x0 x5).f5, (rd_T69 x0 x5).f6⟩ : S69) (.int .i64 (wrap64 ((wrap64 ((wrap64 (x1 + 1)) + 1)) + 1))) (fun oki c hM => by obtain ⟨v4, rfl, hr⟩ := k69_openM hM; exact k69_mkM _ _ _ (⟨t0, wrap64 (x1 + 1), wrap64 ((wrap64 (x1 + 1)) + 1), wrap64 ((wrap64 ((wrap64 (x1 + 1)) + 1)) + 1), (rd_T69 x0 x5).f4, (rd_T69 x0 x5).f5, (rd_T69 x0 x5).f6⟩ : S69) hr); have n0_ := Aside0.mk (show Kd.S k69 69 w5_ w0.heap.size (fun k_ => (P0_ k_ ∨ w.heap.size ≤ k_)) (.slice (some ⟨g, 0, none⟩) l0.length c_) (x0.set x5.toNat (⟨t0, wrap64 (x1 + 1), wrap64 ((wrap64 (x1 + 1)) + 1), wrap64 ((wrap64 ((wrap64 (x1 + 1)) + 1)) + 1), (rd_T69 x0 x5).f4, (rd_T69 x0 x5).f5, (rd_T69 x0 x5).f6⟩ : S69)) from by rw [hw]; exact HP.1); have n1_ := Aside0.mk (show Kept w w5_ (fun k_ => P0_ k_) from by rw [hw]; exact Kept.of_grown HP.2 HK.out (fun k_ hk => by injection hk with hk; subst hk; exact Or.inl HG.out)); have n2_ := Aside0.mk (show Below w0.heap.size w0 w5_ from by rw [hw]; exact below_set HB.out HGW.out); clear HX HK HB hw HP; have HX := n0_; have HK := n1_; have HB := n2_; clear n0_ n1_ n2_) | ((with_reducible refine gate_dst (N := 45) rfl ?_); obtain ⟨oki, ce, hcl, hM, hcc, hoki, hback⟩ := S_in HX.out HI.out.1 HI.out.2.1 (show (k69).sz = 7 from rfl) (fun k_ hk => Or.inr (Nat.le_trans HK.out.1 hk)); obtain ⟨v4, ec, hr4⟩ := k69_openM hM; subst ec; obtain ⟨A4, c4, e4⟩ := Kd.R_slice hr4; subst e4; have hx4 := hcc 4 _ rfl; have HR4 := Aside0.mk hr4; have HBK := Aside0.mk (@hback); have HOK := Aside0.mk hoki; clear hcl hM hcc hback hoki hr4; refine Go.wpList_plain rfl fun K hK => ?_; go_simp; refine hK _ _ ?_) | ((with_reducible refine gate_callee (f := 60) rfl ?_); refine gL (some 47) Tryd.func60 #[.slice A4 ((rd_T69 x0 x5).f4).length c4, .int .i64 (wrap64 ((wrap64 ((wrap64 ((wrap64 (x1 + 1)) + 1)) + 1)) + 1))] ?_; (with_reducible refine (laws_markStringS.calls k1 oki _ _ (wrap64 ((wrap64 ((wrap64 ((wrap64 (x1 + 1)) + 1)) + 1)) + 1)) t4a t4b w0 _ HB.out HR4.out A1.out).mono ?_); rintro e w6_ ⟨rfl, hr5, hb, hk⟩; refine ⟨_, rfl, ?_⟩; have n0_ := Aside0.mk (HBK.out w6_ (⟨t0, wrap64 (x1 + 1), wrap64 ((wrap64 (x1 + 1)) + 1), wrap64 ((wrap64 ((wrap64 (x1 + 1)) + 1)) + 1), t4b, (rd_T69 x0 x5).f5, (rd_T69 x0 x5).f6⟩ : S69) hk (k69_mkM _ _ _ (⟨t0, wrap64 (x1 + 1), wrap64 ((wrap64 (x1 + 1)) + 1), wrap64 ((wrap64 ((wrap64 (x1 + 1)) + 1)) + 1), t4b, (rd_T69 x0 x5).f5, (rd_T69 x0 x5).f6⟩ : S69) hr5)); have n1_ := Aside0.mk (HK.out.then_ hk (fun k_ h_ => (HOK.out k_ h_).1)); have n2_ := Aside0.mk hb; clear HX HK HB HBK HOK HR4 hb hk hr5 hx4; have HX := n0_; have HK := n1_; have HB := n2_; clear n0_ n1_ n2_) | ((with_reducible refine gate_store (t := 4) (p := 54) rfl ?_); have hx := S_at HX.out HI.out.1 HI.out.2.1 (show (k69).sz = 7 from rfl); obtain ⟨okj, cj, _, hMj, hcj, hfj, _⟩ := hx; obtain ⟨v4, ec, _⟩ := k69_openM hMj; subst ec; have hx1 := hcj 5 _ rfl; have hf1 := hfj 5; clear hMj hcj hfj; refine store_event (t := 4) (p := 54) (v := ?vo54) (w1 := w6_.setCell ⟨g, x5.toNat * 7 + 5, none⟩ (.bool ((Int.tmod (t4a) 3 == 0)))) ?hg ?ho ?hn ?hr ?_; (case ho => rfl); (case hg => rfl); (case hn => rfl); (case hr => first | (go_simp; done) | (go_simp; rfl)); intro w7_ hw; clear hx1 hf1; have HP := S_fld HX.out HI.out.1 HI.out.2.1 (show (k69).sz = 7 from rfl) 5 (by decide) (⟨t0, wrap64 (x1 + 1), wrap64 ((wrap64 (x1 + 1)) + 1), wrap64 ((wrap64 ((wrap64 (x1 + 1)) + 1)) + 1), t4b, (Int.tmod (t4a) 3 == 0), (rd_T69 x0 x5).f6⟩ : S69) (.bool ((Int.tmod (t4a) 3 == 0))) (fun oki c hM => by obtain ⟨v4, rfl, hr⟩ := k69_openM hM; exact k69_mkM _ _ _ (⟨t0, wrap64 (x1 + 1), wrap64 ((wrap64 (x1 + 1)) + 1), wrap64 ((wrap64 ((wrap64 (x1 + 1)) + 1)) + 1), t4b, (Int.tmod (t4a) 3 == 0), (rd_T69 x0 x5).f6⟩ : S69) hr); have n0_ := Aside0.mk (show Kd.S k69 69 w7_ w0.heap.size (fun k_ => (P0_ k_ ∨ w.heap.size ≤ k_)) (.slice (some ⟨g, 0, none⟩) l0.length c_) (x0.set x5.toNat (⟨t0, wrap64 (x1 + 1), wrap64 ((wrap64 (x1 + 1)) + 1), wrap64 ((wrap64 ((wrap64 (x1 + 1)) + 1)) + 1), t4b, (Int.tmod (t4a) 3 == 0), (rd_T69 x0 x5).f6⟩ : S69)) from by rw [hw]; exact HP.1); have n1_ := Aside0.mk (show Kept w w7_ (fun k_ => P0_ k_) from by rw [hw]; exact Kept.of_grown HP.2 HK.out (fun k_ hk => by injection hk with hk; subst hk; exact Or.inl HG.out)); have n2_ := Aside0.mk (show Below w0.heap.size w0 w7_ from by rw [hw]; exact below_set HB.out HGW.out); clear HX HK HB hw HP; have HX := n0_; have HK := n1_; have HB := n2_; clear n0_ n1_ n2_) | ((with_reducible refine gate_callee (f := 59) rfl ?_); refine gL (some 60) Tryd.func59 #[.int .i64 (wrap64 (t4a + 1))] ?_; (with_reducible refine (laws_markText.calls k1 (wrap64 (t4a + 1)) t6 _ A2.out).mono ?_); rintro e w8_ ⟨rfl, hb⟩; refine ⟨_, rfl, ?_⟩; have n0_ := Aside0.mk (Kd.S_below HX.out hb); have n1_ := Aside0.mk (Kept.below HK.out hb); have n2_ := Aside0.mk (below_then HB.out HB.out.size hb); clear HX HK HB hb; have HX := n0_; have HK := n1_; have HB := n2_; clear n0_ n1_ n2_) | ((with_reducible refine gate_store (t := 9) (p := 62) rfl ?_); have hx := S_at HX.out HI.out.1 HI.out.2.1 (show (k69).sz = 7 from rfl); obtain ⟨okj, cj, _, hMj, hcj, hfj, _⟩ := hx; obtain ⟨v4, ec, _⟩ := k69_openM hMj; subst ec; have hx1 := hcj 6 _ rfl; have hf1 := hfj 6; clear hMj hcj hfj; refine store_event (t := 9) (p := 62) (v := ?vo62) (w1 := w8_.setCell ⟨g, x5.toNat * 7 + 6, none⟩ (.string (t6))) ?hg ?ho ?hn ?hr ?_; (case ho => rfl); (case hg => rfl); (case hn => rfl); (case hr => first | (go_simp; done) | (go_simp; rfl)); intro w9_ hw; clear hx1 hf1; have HP := S_fld HX.out HI.out.1 HI.out.2.1 (show (k69).sz = 7 from rfl) 6 (by decide) (⟨t0, wrap64 (x1 + 1), wrap64 ((wrap64 (x1 + 1)) + 1), wrap64 ((wrap64 ((wrap64 (x1 + 1)) + 1)) + 1), t4b, (Int.tmod (t4a) 3 == 0), t6⟩ : S69) (.string (t6)) (fun oki c hM => by obtain ⟨v4, rfl, hr⟩ := k69_openM hM; exact k69_mkM _ _ _ (⟨t0, wrap64 (x1 + 1), wrap64 ((wrap64 (x1 + 1)) + 1), wrap64 ((wrap64 ((wrap64 (x1 + 1)) + 1)) + 1), t4b, (Int.tmod (t4a) 3 == 0), t6⟩ : S69) hr); have n0_ := Aside0.mk (show Kd.S k69 69 w9_ w0.heap.size (fun k_ => (P0_ k_ ∨ w.heap.size ≤ k_)) (.slice (some ⟨g, 0, none⟩) l0.length c_) (x0.set x5.toNat (⟨t0, wrap64 (x1 + 1), wrap64 ((wrap64 (x1 + 1)) + 1), wrap64 ((wrap64 ((wrap64 (x1 + 1)) + 1)) + 1), t4b, (Int.tmod (t4a) 3 == 0), t6⟩ : S69)) from by rw [hw]; exact HP.1); have n1_ := Aside0.mk (show Kept w w9_ (fun k_ => P0_ k_) from by rw [hw]; exact Kept.of_grown HP.2 HK.out (fun k_ hk => by injection hk with hk; subst hk; exact Or.inl HG.out)); have n2_ := Aside0.mk (show Below w0.heap.size w0 w9_ from by rw [hw]; exact below_set HB.out HGW.out); clear HX HK HB hw HP; have HX := n0_; have HK := n1_; have HB := n2_; clear n0_ n1_ n2_))
     go_roundg k1
     case measure => have := HK1.out; omega
     case rel => exact ⟨_, _, _, rfl, rfl, H', ⟨by have := HK1.out; omega⟩, ⟨by rw [List.length_set]; exact HN1.out⟩, HX, HK, HB⟩
    ·rw [if_neg c5] at H
     exact absurd H (by simp)
   ·rw [if_neg c3] at H
    (simp only [Option.some.injEq, Prod.mk.injEq] at H); (obtain ⟨rfl, rfl⟩ := H); (have p1 : decide (x5 < (l0.length : Int)) = false := decide_eq_false (by omega)); clear c3 hn; (go_wp2); go_ret; (exact ⟨rfl, HO.out, HB.out, HK.out⟩)

end Go.Proofs.YtdogpphfofimeaaDoor.X
namespace Go.Proofs.YtdogpphfofimeaaDoor.X
open Go.RowKit Go.Proofs.YtdogpphfofimeaaDoorW.PrintWords Go.Proofs.YtdogpphfofimeaaDoorW.PrintLast Go.Proofs.YtdogpphfofimeaaDoorW.PrintMore
attribute [local go_sem] max2_int min2_int max_two min_two max_three min_three max_four min_four   -- for this text's walks alone
set_option linter.unusedVariables false
set_option linter.unusedSimpArgs false
attribute [-simp] ByteArray.size_append ByteArray.size_extract
attribute [-go_sem] ByteArray.size_append'

/-! ### laws_markAnswerS: function 23 -/
def laws_markAnswerS.l0 : Nat → List (S58) → Int → Int → Option (Int × (List (S58)))
 | 0, _, _, _ => none
 | k + 1, x0, x1, x5 => if x5 < (x0.length : Int) then ((laws_markText.f k x1).bind fun t101 => (if 0 ≤ x5 then ((some (x0.set (x5 : Int).toNat (⟨t101, (rd_T58 x0 x5).f1⟩ : S58) : List (S58))).bind fun y102 => ((laws_markText.f k (wrap64 (x1 + 1))).bind fun t103 => (laws_markAnswerS.l0 k (y102.set (x5 : Int).toNat (⟨(rd_T58 y102 x5).f0, t103⟩ : S58)) (wrap64 ((wrap64 (x1 + 1)) + 1)) (wrap64 (x5 + 1))))) else (none))) else (some (x1, x0))
def laws_markAnswerS.f (k : Nat) (l0 : List (S58)) (a1 : Int) : Option (Int × (List (S58))) := laws_markAnswerS.l0 k l0 a1 0
set_option maxHeartbeats 8000000 in
set_option maxRecDepth 100000 in
theorem laws_markAnswerS.calls (k : Nat) (P0_ : Nat → Prop) (u9000_ : Value) (l0 : List (S58)) (a1 : Int) (r1 : Int) (r2 : List (S58)) (w0 w : World) (hB : Below w0.heap.size w0 w) (ho0 : Kd.R k58 58 w w0.heap.size P0_ u9000_ l0) (h : laws_markAnswerS.f k l0 a1 = some (r1, r2)) :
  Calls Tryd.prog 23 #[u9000_, .int .i64 a1] w fun e w' => e = .returned (.int .i64 r1) ∧ Kd.R k58 58 w' w0.heap.size (fun k_ => (P0_ k_ ∨ w.heap.size ≤ k_)) u9000_ r2 ∧ Below w0.heap.size w0 w' ∧ Kept w w' (fun k_ => P0_ k_) := by
 (have HO0 := Aside0.mk (show Kd.R k58 58 w w0.heap.size (fun k_ => (P0_ k_ ∨ w.heap.size ≤ k_)) u9000_ l0 from Kd.R_mono ho0 (fun k_ hk => (.inl hk)))); (have HK := Aside0.mk (Kept.refl w (fun k_ => P0_ k_))); (have HW0 := Aside0.mk hB.size); (have HB := Aside0.mk hB); clear hB; (unfold laws_markAnswerS.f at h); (have H := h); clear h; (have H' := Aside0.mk H); clear H; (go_enter Tryd.func23, Tryd.ntmps23); (go_wp2); (go_loopg [1, 5] k (fun kq v1 v5 w' => ∃ (x0_1 : List (S58)) (x1_1 : Int) (x5_1 : Int), v1 = .int .i64 x1_1 ∧ v5 = .int .i64 x5_1 ∧ Aside0 (laws_markAnswerS.l0 kq x0_1 x1_1 x5_1 = some (r1, r2)) ∧ Aside0 (kq ≤ k) ∧ Aside0 (Kd.R k58 58 w' w0.heap.size (fun k_ => (P0_ k_ ∨ w.heap.size ≤ k_)) u9000_ x0_1) ∧ Aside0 (Kept w w' (fun k_ => P0_ k_)) ∧ Aside0 (Below w0.heap.size w0 w')))
 case atStart => exact ⟨(l0), (a1), (0), (by first | rfl | (simp; done) | (simp [*]; done)), (by first | rfl | (simp; done) | (simp [*]; done)), H', ⟨Nat.le_refl _⟩, ⟨rI HO0⟩, ⟨by repeat (first | (with_reducible first | exact HK.out | apply Kept.alloc | apply Kept.drewN | apply Kept.drew) | exact HK.out)⟩, ⟨eI HB⟩⟩
 case round =>
  (clear H'); (try clear c2); (try clear p2); (obtain ⟨x0_1, x1_1, x5_1, rfl, rfl, HA, HK1, HO_0, HK, HB⟩ := hrel)
  cases gk with
  | zero => exact absurd HA.out (by simp [laws_markAnswerS.l0])
  | succ k1 =>
   (have H := HA.out); clear HA; (simp only [laws_markAnswerS.l0] at H); (by_cases c3 : x5_1 < (x0_1.length : Int))
   ·rw [if_pos c3] at H
    (have c3b0 := decide_eq_true c3); clear c3; (replace H := obS H); (obtain ⟨t101, A4, H⟩ := H); (by_cases c5 : 0 ≤ x5_1)
    ·rw [if_pos c5] at H
     (have c5b0 := decide_eq_true c5); clear c5; (obtain ⟨y102, hy102⟩ : ∃ y_ : List (S58), y_ = (x0_1.set (x5_1 : Int).toNat (⟨t101, (rd_T58 x0_1 x5_1).f1⟩ : S58)) := ⟨_, rfl⟩); (replace H : ((laws_markText.f k1 (wrap64 (x1_1 + 1))).bind fun t103 => (laws_markAnswerS.l0 k1 (y102.set (x5_1 : Int).toNat (⟨(rd_T58 y102 x5_1).f0, t103⟩ : S58)) (wrap64 ((wrap64 (x1_1 + 1)) + 1)) (wrap64 (x5_1 + 1)))) = some (r1, r2) := by first | (rw [hy102]; with_reducible exact H) | (have H2_ := (Option.bind_some _ _).symm.trans H; rw [hy102]; with_reducible exact H2_) | (have H2_ := (Option.bind_some _ _).symm.trans H; with_reducible exact H2_) | with_reducible exact H | (rw [hy102]; exact H) | exact H); (have Ny102 := Aside0.mk hy102); clear hy102; (replace H := obS H); (obtain ⟨t103, A7, H⟩ := H); (obtain ⟨y104, hy104⟩ : ∃ y_ : List (S58), y_ = (y102.set (x5_1 : Int).toNat (⟨(rd_T58 y102 x5_1).f0, t103⟩ : S58)) := ⟨_, rfl⟩); (replace H : (laws_markAnswerS.l0 k1 y104 (wrap64 ((wrap64 (x1_1 + 1)) + 1)) (wrap64 (x5_1 + 1))) = some (r1, r2) := by first | (rw [hy104]; with_reducible exact H) | (have H2_ := (Option.bind_some _ _).symm.trans H; rw [hy104]; with_reducible exact H2_) | (have H2_ := (Option.bind_some _ _).symm.trans H; with_reducible exact H2_) | with_reducible exact H | (rw [hy104]; exact H) | exact H); (have Ny104 := Aside0.mk hy104); clear hy104; (have H' := Aside0.mk H); clear H; (obtain ⟨Ao9, co9, eo9⟩ := Kd.R_slice HO_0.out); subst eo9
     go_wp2_with (first | ((with_reducible refine gate_callee (f := 59) rfl ?_); refine gL (some 15) Tryd.func59 #[.int .i64 x1_1] ?_; (with_reducible refine (laws_markText.calls k1 x1_1 t101 _ A4.out).mono ?_); rintro e w10 ⟨rfl, hb⟩; refine ⟨_, rfl, ?_⟩; have n0_ := Aside0.mk (rbI hb HO_0); have n1_ := Aside0.mk (Kept.below (S := (fun k_ => P0_ k_)) (by repeat (first | (with_reducible first | exact HK.out | apply Kept.alloc | apply Kept.drewN | apply Kept.drew) | exact HK.out)) hb); have n2_ := Aside0.mk (sI hb HB); clear HO_0 HK HB; have HO_0 := n0_; have HK := n1_; have HB := n2_; clear n0_ n1_ n2_; (try clear hb); (try clear hb2); (try clear hk); (try clear hi); have p6 : 0 ≤ (x5_1 : Int) := odt; have q6 : (x5_1 : Int) < ((x0_1.length : Int) : Int) := odt; obtain ⟨go6, co6, eo6, gb6, gl6, cl6, HG6⟩ := Kd.R_form HO_0.out (by omega); (first | cases eo6 | (injection eo6 with ea_ en_ ec_; (first | subst ea_ | (injection ea_ with ea_; subst ea_)); subst ec_; clear en_)); have GB6 := Aside0.mk gb6; have GG6 := Aside0.mk HG6; clear gb6 gl6 HG6; have HMgo6 := Aside0.mk (show (P0_ go6 ∨ w.heap.size ≤ go6) from (HO_0.out.1 _ rfl)); obtain ⟨ce6, hcl6, hM6, hcc6, hfr6⟩ := Kd.R_elem HO_0.out z58 (x5_1 : Int) p6 q6; obtain rfl := k58_openM hM6; have hx6_0 : w10.cell? ⟨go6, (x5_1 : Int).toNat * 2, none⟩ = some (.string ((rd_T58 x0_1 x5_1).f0)) := hcc6 0 _ rfl; have hx6_1 : w10.cell? ⟨go6, (x5_1 : Int).toNat * 2 + 1, none⟩ = some (.string ((rd_T58 x0_1 x5_1).f1)) := hcc6 1 _ rfl; have hf6_0 : w10.frozen? ⟨go6, (x5_1 : Int).toNat * 2, none⟩ = false := hfr6 0; have hf6_1 : w10.frozen? ⟨go6, (x5_1 : Int).toNat * 2 + 1, none⟩ = false := hfr6 1; clear hcl6 hcc6 hfr6 hM6; replace p6 := eq_true p6; replace q6 := eq_true q6; have HX11 := Aside0.mk (show Kd.R k58 58 w10 w0.heap.size (fun k_ => (P0_ k_ ∨ w.heap.size ≤ k_)) (.slice (some ⟨go6, 0, none⟩) x0_1.length co9) x0_1 from (rI HO_0)); obtain ⟨ce11, hcl11, hM11, hcc11, hfr11⟩ := Kd.R_elem HX11.out z58 (x5_1 : Int) odt (by have h_ : (x5_1 : Int) < ((x0_1.length : Int) : Int) := odt; first | exact h_ | (have e_ := (Kd.R_reads' HO_0.out).1; omega) | simpa using h_); obtain rfl := k58_openM hM11; have HP11 := Kd.R_seg HX11.out (x5_1 : Int) odt (by have h_ : (x5_1 : Int) < ((x0_1.length : Int) : Int) := odt; first | exact h_ | (have e_ := (Kd.R_reads' HO_0.out).1; omega) | simpa using h_) (seg := [.string t101]) (j := 0) hcl11 hcc11 (show 1 ≤ 2 from by decide) (x' := (⟨t101, (rd_T58 x0_1 x5_1).f1⟩ : S58)) (k58_mkM _ _ _ (⟨t101, (rd_T58 x0_1 x5_1).f1⟩ : S58) ) (fun _ hk => hk); have hx11_0 := hcc11 0 _ rfl; (try simp only [show (k58).sz = 2 from rfl, Nat.mul_one, Nat.add_zero] at hx11_0); have hf11_0 := hfr11 0; (try simp only [show (k58).sz = 2 from rfl, Nat.mul_one, Nat.add_zero] at hf11_0); clear hcl11 hcc11 hfr11 hM11) | ((with_reducible refine gate_store (t := 9) (p := 17) rfl ?_); refine store_event (t := 9) (p := 17) (v := ?vo_w12) (w1 := (w10.setCell ⟨go6, (x5_1 : Int).toNat * 2, none⟩ (.string t101))) ?hg ?ho ?hn ?hr ?_; (case ho => rfl); (case hg => rfl); (case hn => rfl); (case hr => first | (go_simp; done) | (go_simp; rfl)); intro w12 hw; have hg : w10.grownBy w12 (some go6) := (by rw [hw]; exact HP11.2); have hp_ : Kd.R k58 58 w12 w0.heap.size (fun k_ => (P0_ k_ ∨ w.heap.size ≤ k_)) (.slice (some ⟨go6, 0, none⟩) x0_1.length co9) y102 := (by rw [hw, Ny102.out]; exact HP11.1); clear HP11; have n0_ := Aside0.mk (hp_); have n1_ := Aside0.mk ((by rw [hw]; exact below_set (HB.out) GB6.out : Below w0.heap.size w0 w12)); have n2_ := Aside0.mk (Kept.of_grown (S := (fun k_ => P0_ k_)) hg (by repeat (first | (with_reducible first | exact HK.out | apply Kept.alloc | apply Kept.drewN | apply Kept.drew) | exact HK.out)) (fun k_ e_ => (HO_0.out.1 k_ e_))); clear HO_0 HB HK; have HO_0 := n0_; have HB := n1_; have HK := n2_; clear n0_ n1_ n2_ hg hw hp_) | ((with_reducible refine gate_callee (f := 59) rfl ?_); refine gL (some 23) Tryd.func59 #[.int .i64 (wrap64 (x1_1 + 1))] ?_; (with_reducible refine (laws_markText.calls k1 (wrap64 (x1_1 + 1)) t103 _ A7.out).mono ?_); rintro e w13 ⟨rfl, hb⟩; refine ⟨_, rfl, ?_⟩; have n0_ := Aside0.mk (rbI hb HO_0); have n1_ := Aside0.mk (Kept.below (S := (fun k_ => P0_ k_)) (by repeat (first | (with_reducible first | exact HK.out | apply Kept.alloc | apply Kept.drewN | apply Kept.drew) | exact HK.out)) hb); have n2_ := Aside0.mk (sI hb HB); clear HO_0 HK HB; have HO_0 := n0_; have HK := n1_; have HB := n2_; clear n0_ n1_ n2_; (try clear hb); (try clear hb2); (try clear hk); (try clear hi); have p8 : 0 ≤ (x5_1 : Int) := odt; have q8 : (x5_1 : Int) < ((x0_1.length : Int) : Int) := odt; obtain ⟨ce8, hcl8, hM8, hcc8, hfr8⟩ := Kd.R_elem HO_0.out z58 (x5_1 : Int) p8 q8; obtain rfl := k58_openM hM8; have hx8_0 : w13.cell? ⟨go6, (x5_1 : Int).toNat * 2, none⟩ = some (.string ((rd_T58 y102 x5_1).f0)) := hcc8 0 _ rfl; have hx8_1 : w13.cell? ⟨go6, (x5_1 : Int).toNat * 2 + 1, none⟩ = some (.string ((rd_T58 y102 x5_1).f1)) := hcc8 1 _ rfl; have hf8_0 : w13.frozen? ⟨go6, (x5_1 : Int).toNat * 2, none⟩ = false := hfr8 0; have hf8_1 : w13.frozen? ⟨go6, (x5_1 : Int).toNat * 2 + 1, none⟩ = false := hfr8 1; clear hcl8 hcc8 hfr8 hM8; replace p8 := eq_true p8; replace q8 := eq_true q8; have HX14 := Aside0.mk (show Kd.R k58 58 w13 w0.heap.size (fun k_ => (P0_ k_ ∨ w.heap.size ≤ k_)) (.slice (some ⟨go6, 0, none⟩) x0_1.length co9) y102 from (rI HO_0)); obtain ⟨ce14, hcl14, hM14, hcc14, hfr14⟩ := Kd.R_elem HX14.out z58 (x5_1 : Int) odt (by have h_ : (x5_1 : Int) < ((x0_1.length : Int) : Int) := odt; first | exact h_ | (have e_ := (Kd.R_reads' HO_0.out).1; omega) | simpa using h_); obtain rfl := k58_openM hM14; have HP14 := Kd.R_seg HX14.out (x5_1 : Int) odt (by have h_ : (x5_1 : Int) < ((x0_1.length : Int) : Int) := odt; first | exact h_ | (have e_ := (Kd.R_reads' HO_0.out).1; omega) | simpa using h_) (seg := [.string t103]) (j := 1) hcl14 hcc14 (show 2 ≤ 2 from by decide) (x' := (⟨(rd_T58 y102 x5_1).f0, t103⟩ : S58)) (k58_mkM _ _ _ (⟨(rd_T58 y102 x5_1).f0, t103⟩ : S58) ) (fun _ hk => hk); have hx14_1 := hcc14 1 _ rfl; (try simp only [show (k58).sz = 2 from rfl, Nat.mul_one, Nat.add_zero] at hx14_1); have hf14_1 := hfr14 1; (try simp only [show (k58).sz = 2 from rfl, Nat.mul_one, Nat.add_zero] at hf14_1); clear hcl14 hcc14 hfr14 hM14) | ((with_reducible refine gate_store (t := 9) (p := 25) rfl ?_); refine store_event (t := 9) (p := 25) (v := ?vo_w15) (w1 := (w13.setCell ⟨go6, (x5_1 : Int).toNat * 2 + 1, none⟩ (.string t103))) ?hg ?ho ?hn ?hr ?_; (case ho => rfl); (case hg => rfl); (case hn => rfl); (case hr => first | (go_simp; done) | (go_simp; rfl)); intro w15 hw; have hg : w13.grownBy w15 (some go6) := (by rw [hw]; exact HP14.2); have hp_ : Kd.R k58 58 w15 w0.heap.size (fun k_ => (P0_ k_ ∨ w.heap.size ≤ k_)) (.slice (some ⟨go6, 0, none⟩) x0_1.length co9) y104 := (by rw [hw, Ny104.out]; exact HP14.1); clear HP14; have n0_ := Aside0.mk (hp_); have n1_ := Aside0.mk ((by rw [hw]; exact below_set (HB.out) GB6.out : Below w0.heap.size w0 w15)); have n2_ := Aside0.mk (Kept.of_grown (S := (fun k_ => P0_ k_)) hg (by repeat (first | (with_reducible first | exact HK.out | apply Kept.alloc | apply Kept.drewN | apply Kept.drew) | exact HK.out)) (fun k_ e_ => (HO_0.out.1 k_ e_))); clear HO_0 HB HK; have HO_0 := n0_; have HB := n1_; have HK := n2_; clear n0_ n1_ n2_ hg hw hp_))
     go_roundg k1
     case measure => have := HK1.out; omega
     case rel => exact ⟨(y104), (wrap64 ((wrap64 (x1_1 + 1)) + 1)), (wrap64 (x5_1 + 1)), (by first | rfl | (simp; done) | (simp [*]; done)), (by first | rfl | (simp; done) | (simp [*]; done)), H', ⟨by have := HK1.out; omega⟩, ⟨rI HO_0⟩, ⟨by repeat (first | (with_reducible first | exact HK.out | apply Kept.alloc | apply Kept.drewN | apply Kept.drew) | exact HK.out)⟩, ⟨eI HB⟩⟩
    ·rw [if_neg c5] at H
     exact absurd H (by simp)
   ·rw [if_neg c3] at H
    (have c3b0 := decide_eq_false c3); clear c3; (simp only [Option.some.injEq, Prod.mk.injEq] at H); (obtain ⟨rfl, rfl⟩ := H); (obtain ⟨Ao16, co16, eo16⟩ := Kd.R_slice HO_0.out); subst eo16; (go_wp2); go_ret; (exact ⟨rfl, rI HO_0, eI HB, by repeat (first | (with_reducible first | exact HK.out | apply Kept.alloc | apply Kept.drewN | apply Kept.drew) | exact HK.out)⟩)
/-! ### laws_markIntS: function 24 -/
def laws_markIntS.l0 : Nat → List Int → Int → Int → Option (Int × List Int)
 | 0, _, _, _ => none
 | k + 1, x0, x1, x5 => if x5 < (x0.length : Int) then (if 0 ≤ x5 then (laws_markIntS.l0 k (x0.set (x5 : Int).toNat x1) (wrap64 (x1 + 1)) (wrap64 (x5 + 1))) else (none)) else (some (x1, x0))
def laws_markIntS.f (k : Nat) (l0 : List Int) (a1 : Int) : Option (Int × List Int) := laws_markIntS.l0 k l0 a1 0
set_option maxHeartbeats 8000000 in
set_option maxRecDepth 100000 in
theorem laws_markIntS.calls (k : Nat) (P0_ : Nat → Prop) (u9000_ : Value) (l0 : List Int) (a1 : Int) (r1 : Int) (r2 : List Int) (w0 w : World) (hB : Below w0.heap.size w0 w) (ho0 : Kd.R (Kd.int .i64) 3 w w0.heap.size P0_ u9000_ l0) (h : laws_markIntS.f k l0 a1 = some (r1, r2)) :
  Calls Tryd.prog 24 #[u9000_, .int .i64 a1] w fun e w' => e = .returned (.int .i64 r1) ∧ Kd.R (Kd.int .i64) 3 w' w0.heap.size (fun k_ => (P0_ k_ ∨ w.heap.size ≤ k_)) u9000_ r2 ∧ Below w0.heap.size w0 w' ∧ Kept w w' (fun k_ => P0_ k_) := by
 (have HO0 := Aside0.mk (show Kd.R (Kd.int .i64) 3 w w0.heap.size (fun k_ => (P0_ k_ ∨ w.heap.size ≤ k_)) u9000_ l0 from Kd.R_mono ho0 (fun k_ hk => (.inl hk)))); (have HK := Aside0.mk (Kept.refl w (fun k_ => P0_ k_))); (have HW0 := Aside0.mk hB.size); (have HB := Aside0.mk hB); clear hB; (unfold laws_markIntS.f at h); (have H := h); clear h; (have H' := Aside0.mk H); clear H; (go_enter Tryd.func24, Tryd.ntmps24); (go_wp2); (go_loopg [1, 5] k (fun kq v1 v5 w' => ∃ (x0_1 : List Int) (x1_1 : Int) (x5_1 : Int), v1 = .int .i64 x1_1 ∧ v5 = .int .i64 x5_1 ∧ Aside0 (laws_markIntS.l0 kq x0_1 x1_1 x5_1 = some (r1, r2)) ∧ Aside0 (kq ≤ k) ∧ Aside0 (Kd.R (Kd.int .i64) 3 w' w0.heap.size (fun k_ => (P0_ k_ ∨ w.heap.size ≤ k_)) u9000_ x0_1) ∧ Aside0 (Kept w w' (fun k_ => P0_ k_)) ∧ Aside0 (Below w0.heap.size w0 w')))
 case atStart => exact ⟨(l0), (a1), (0), (by first | rfl | (simp; done) | (simp [*]; done)), (by first | rfl | (simp; done) | (simp [*]; done)), H', ⟨Nat.le_refl _⟩, ⟨rI HO0⟩, ⟨by repeat (first | (with_reducible first | exact HK.out | apply Kept.alloc | apply Kept.drewN | apply Kept.drew) | exact HK.out)⟩, ⟨eI HB⟩⟩
 case round =>
  (clear H'); (try clear c2); (try clear p2); (obtain ⟨x0_1, x1_1, x5_1, rfl, rfl, HA, HK1, HO_0, HK, HB⟩ := hrel)
  cases gk with
  | zero => exact absurd HA.out (by simp [laws_markIntS.l0])
  | succ k1 =>
   (have H := HA.out); clear HA; (simp only [laws_markIntS.l0] at H); (by_cases c3 : x5_1 < (x0_1.length : Int))
   ·rw [if_pos c3] at H
    (have c3b0 := decide_eq_true c3); clear c3; (by_cases c4 : 0 ≤ x5_1)
    ·rw [if_pos c4] at H
     (have c4b0 := decide_eq_true c4); clear c4; (obtain ⟨y101, hy101⟩ : ∃ y_ : List Int, y_ = (x0_1.set (x5_1 : Int).toNat x1_1) := ⟨_, rfl⟩); (replace H : (laws_markIntS.l0 k1 y101 (wrap64 (x1_1 + 1)) (wrap64 (x5_1 + 1))) = some (r1, r2) := by first | (rw [hy101]; with_reducible exact H) | (have H2_ := (Option.bind_some _ _).symm.trans H; rw [hy101]; with_reducible exact H2_) | (have H2_ := (Option.bind_some _ _).symm.trans H; with_reducible exact H2_) | with_reducible exact H | (rw [hy101]; exact H) | exact H); (have Ny101 := Aside0.mk hy101); clear hy101; (have H' := Aside0.mk H); clear H; (obtain ⟨Ao6, co6, eo6⟩ := Kd.R_slice HO_0.out); subst eo6; (have p5 : 0 ≤ (x5_1 : Int) := odt); (have q5 : (x5_1 : Int) < ((x0_1.length : Int) : Int) := odt); (obtain ⟨go5, co5, eo5, gb5, gl5, cl5, HG5⟩ := Kd.R_form HO_0.out (by omega)); ((first | cases eo5 | (injection eo5 with ea_ en_ ec_; (first | subst ea_ | (injection ea_ with ea_; subst ea_)); subst ec_; clear en_))); (have GB5 := Aside0.mk gb5); (have GG5 := Aside0.mk HG5); clear gb5 gl5 HG5; (have HMgo5 := Aside0.mk (show (P0_ go5 ∨ w.heap.size ≤ go5) from (HO_0.out.1 _ rfl))); (obtain ⟨hx5_0, hf5_0⟩ := Kd.R_celln 0 HO_0.out (x5_1 : Int) p5 q5); (replace p5 := eq_true p5); (replace q5 := eq_true q5); (have HP7 := Kd.R_putg HO_0.out (x5_1 : Int) x1_1); (go_wp2_with (first | ((with_reducible refine gate_store (t := 3) (p := 15) rfl ?_); refine store_event (t := 3) (p := 15) (v := ?vo_w8) (w1 := (wr.setCell ⟨go5, (x5_1 : Int).toNat, none⟩ (.int .i64 x1_1))) ?hg ?ho ?hn ?hr ?_; (case ho => rfl); (case hg => rfl); (case hn => rfl); (case hr => first | (go_simp; done) | (go_simp; rfl)); intro w8 hw; have hg : wr.grownBy w8 (some go5) := (by rw [hw]; exact HP7.2); have hp_ : Kd.R (Kd.int .i64) 3 w8 w0.heap.size (fun k_ => (P0_ k_ ∨ w.heap.size ≤ k_)) (.slice (some ⟨go5, 0, none⟩) x0_1.length co6) y101 := (by rw [hw, Ny101.out]; exact HP7.1); clear HP7; have n0_ := Aside0.mk (hp_); have n1_ := Aside0.mk ((by rw [hw]; exact below_set (HB.out) GB5.out : Below w0.heap.size w0 w8)); have n2_ := Aside0.mk (Kept.of_grown (S := (fun k_ => P0_ k_)) hg (by repeat (first | (with_reducible first | exact HK.out | apply Kept.alloc | apply Kept.drewN | apply Kept.drew) | exact HK.out)) (fun k_ e_ => (HO_0.out.1 k_ e_))); clear HO_0 HB HK; have HO_0 := n0_; have HB := n1_; have HK := n2_; clear n0_ n1_ n2_ hg hw hp_))); go_roundg k1
     case measure => have := HK1.out; omega
     case rel => exact ⟨(y101), (wrap64 (x1_1 + 1)), (wrap64 (x5_1 + 1)), (by first | rfl | (simp; done) | (simp [*]; done)), (by first | rfl | (simp; done) | (simp [*]; done)), H', ⟨by have := HK1.out; omega⟩, ⟨rI HO_0⟩, ⟨by repeat (first | (with_reducible first | exact HK.out | apply Kept.alloc | apply Kept.drewN | apply Kept.drew) | exact HK.out)⟩, ⟨eI HB⟩⟩
    ·rw [if_neg c4] at H
     exact absurd H (by simp)
   ·rw [if_neg c3] at H
    (have c3b0 := decide_eq_false c3); clear c3; (simp only [Option.some.injEq, Prod.mk.injEq] at H); (obtain ⟨rfl, rfl⟩ := H); (obtain ⟨Ao9, co9, eo9⟩ := Kd.R_slice HO_0.out); subst eo9; (go_wp2); go_ret; (exact ⟨rfl, rI HO_0, eI HB, by repeat (first | (with_reducible first | exact HK.out | apply Kept.alloc | apply Kept.drewN | apply Kept.drew) | exact HK.out)⟩)
/-! ### laws_heldIntS: function 25 -/
def laws_heldIntS.l0 : Nat → List Int → Int → Int → Option (Int)
 | 0, _, _, _ => none
 | k + 1, x0, x1, x5 => if x5 < (x0.length : Int) then (if 0 ≤ x5 then (if (rd x0 x5) = x1 then (laws_heldIntS.l0 k x0 (wrap64 (x1 + 1)) (wrap64 (x5 + 1))) else (some (-1))) else (none)) else (some x1)
def laws_heldIntS.f (k : Nat) (l0 : List Int) (a1 : Int) : Option (Int) := laws_heldIntS.l0 k l0 a1 0
set_option maxHeartbeats 8000000 in
set_option maxRecDepth 100000 in
theorem laws_heldIntS.calls (k : Nat) (A0 : Option Addr) (c0 : Nat) (l0 : List Int) (a1 : Int) (r : Int) (w : World) (hr0 : Kd.C (Kd.int .i64) w A0 l0.length l0) (hc0 : l0.length ≤ c0) (h : laws_heldIntS.f k l0 a1 = some r) :
  Calls Tryd.prog 25 #[.slice A0 l0.length c0, .int .i64 a1] w fun e w' => e = .returned (.int .i64 r) ∧ Drawn0 w w' := by
 (have HR0 := Aside0.mk hr0); (have HC0 := Aside0.mk hc0); clear hr0 hc0; (unfold laws_heldIntS.f at h); (have H := h); clear h; (have H' := Aside0.mk H); clear H; (go_enter Tryd.func25, Tryd.ntmps25); (go_wp2); (go_loopg [1, 5] k (fun kq v1 v5 w' => ∃ (x1_1 : Int) (x5_1 : Int), v1 = .int .i64 x1_1 ∧ v5 = .int .i64 x5_1 ∧ Aside0 (laws_heldIntS.l0 kq l0 x1_1 x5_1 = some r) ∧ Aside0 (kq ≤ k) ∧ Drawn0 w w'))
 case atStart => exact ⟨(a1), (0), (by first | rfl | (simp; done) | (simp [*]; done)), (by first | rfl | (simp; done) | (simp [*]; done)), H', ⟨Nat.le_refl _⟩, by repeat (first | exact Drawn0.refl _ | apply Drawn0.step)⟩
 case round =>
  (clear H'); (try clear c2); (try clear p2); (obtain ⟨x1_1, x5_1, rfl, rfl, HA, HK1, ⟨m1, rfl⟩⟩ := hrel)
  cases gk with
  | zero => exact absurd HA.out (by simp [laws_heldIntS.l0])
  | succ k1 =>
   (have H := HA.out); clear HA; (simp only [laws_heldIntS.l0] at H); (by_cases c3 : x5_1 < (l0.length : Int))
   ·rw [if_pos c3] at H
    (have c3b0 := decide_eq_true c3); clear c3; (by_cases c4 : 0 ≤ x5_1)
    ·rw [if_pos c4] at H
     (have c4b0 := decide_eq_true c4); clear c4; (by_cases c5 : (rd l0 x5_1) = x1_1)
     ·rw [if_pos c5] at H
      (have c5b0 : ((rd l0 x5_1) == x1_1) = true := beq_iff_eq.mpr c5); (have c5b1 : ((rd l0 x5_1) != x1_1) = false := bne_eq_false_iff_eq.mpr c5); clear c5; (have H' := Aside0.mk H); clear H; (have p101 : 0 ≤ (x5_1 : Int) := odt); (have q101 : x5_1 < (l0.length : Int) := odt); (obtain ⟨ad101, e101, hx101_0⟩ := Kd.at_int HR0.out x5_1 p101 q101); (cases e101); (replace p101 := eq_true p101); (replace q101 := eq_true q101); (go_wp2); go_roundg k1
      case measure => have := HK1.out; omega
      case rel => exact ⟨(wrap64 (x1_1 + 1)), (wrap64 (x5_1 + 1)), (by first | rfl | (simp; done) | (simp [*]; done)), (by first | rfl | (simp; done) | (simp [*]; done)), H', ⟨by have := HK1.out; omega⟩, by repeat (first | exact Drawn0.refl _ | apply Drawn0.step)⟩
     ·rw [if_neg c5] at H
      (have c5b0 : ((rd l0 x5_1) == x1_1) = false := beq_eq_false_iff_ne.mpr c5); (have c5b1 : ((rd l0 x5_1) != x1_1) = true := bne_iff_ne.mpr c5); (obtain rfl := Option.some.inj H); (have p101 : 0 ≤ (x5_1 : Int) := odt); (have q101 : x5_1 < (l0.length : Int) := odt); (obtain ⟨ad101, e101, hx101_0⟩ := Kd.at_int HR0.out x5_1 p101 q101); (cases e101); (replace p101 := eq_true p101); (replace q101 := eq_true q101); (go_wp2); go_ret; (exact ⟨by first | rfl | (simp; done) | (simp [*]; done), by repeat (first | exact Drawn0.refl _ | apply Drawn0.step)⟩)
    ·rw [if_neg c4] at H
     exact absurd H (by simp)
   ·rw [if_neg c3] at H
    (have c3b0 := decide_eq_false c3); clear c3; (obtain rfl := Option.some.inj H); (go_wp2); go_ret; (exact ⟨by first | rfl | (simp; done) | (simp [*]; done), by repeat (first | exact Drawn0.refl _ | apply Drawn0.step)⟩)
/-! ### laws_szStringS: function 80 -/
def laws_szStringS.l0 : Nat → List ByteArray → Int → Int → Option (Int)
 | 0, _, _, _ => none
 | k + 1, x0, x1, x5 => if x5 < (x0.length : Int) then (if 0 ≤ x5 then (if (wrap64 (x1 - ((rdOf ByteArray.empty x0 x5).size : Int))) < 0 then (some (-1)) else (laws_szStringS.l0 k x0 (wrap64 (x1 - ((rdOf ByteArray.empty x0 x5).size : Int))) (wrap64 (x5 + 1)))) else (none)) else (some x1)
def laws_szStringS.f (k : Nat) (l0 : List ByteArray) (a1 : Int) : Option (Int) := if (wrap64 (a1 - (l0.length : Int))) < 0 then (some (-1)) else (laws_szStringS.l0 k l0 (wrap64 (a1 - (l0.length : Int))) 0)
set_option maxHeartbeats 8000000 in
set_option maxRecDepth 100000 in
theorem laws_szStringS.calls (k : Nat) (A0 : Option Addr) (c0 : Nat) (l0 : List ByteArray) (a1 : Int) (r : Int) (w : World) (hr0 : Kd.C Kd.string w A0 l0.length l0) (hc0 : l0.length ≤ c0) (h : laws_szStringS.f k l0 a1 = some r) :
  Calls Tryd.prog 80 #[.slice A0 l0.length c0, .int .i64 a1] w fun e w' => e = .returned (.int .i64 r) ∧ Drawn0 w w' := by
 (have HR0 := Aside0.mk hr0); (have HC0 := Aside0.mk hc0); clear hr0 hc0; (unfold laws_szStringS.f at h); (have H := h); clear h; (by_cases c3 : (wrap64 (a1 - (l0.length : Int))) < 0); (· (rw [if_pos c3] at H); (have c3b0 := decide_eq_true c3); clear c3; (obtain rfl := Option.some.inj H); (go_enter Tryd.func80, Tryd.ntmps80); (go_wp2); go_ret; (exact ⟨by first | rfl | (simp; done) | (simp [*]; done), by repeat (first | exact Drawn0.refl _ | apply Drawn0.step)⟩))
 ·rw [if_neg c3] at H
  (have c3b0 := decide_eq_false c3); clear c3; (have H' := Aside0.mk H); clear H; (go_enter Tryd.func80, Tryd.ntmps80); (go_wp2); (go_loopg [1, 5] k (fun kq v1 v5 w' => ∃ (x1_1 : Int) (x5_1 : Int), v1 = .int .i64 x1_1 ∧ v5 = .int .i64 x5_1 ∧ Aside0 (laws_szStringS.l0 kq l0 x1_1 x5_1 = some r) ∧ Aside0 (kq ≤ k) ∧ Drawn0 w w'))
  case atStart => exact ⟨(wrap64 (a1 - (l0.length : Int))), (0), (by first | rfl | (simp; done) | (simp [*]; done)), (by first | rfl | (simp; done) | (simp [*]; done)), H', ⟨Nat.le_refl _⟩, by repeat (first | exact Drawn0.refl _ | apply Drawn0.step)⟩
  case round =>
   (clear H'); (try clear p2); (try clear c3); (try clear c3b0); (obtain ⟨x1_1, x5_1, rfl, rfl, HA, HK1, ⟨m1, rfl⟩⟩ := hrel)
   cases gk with
   | zero => exact absurd HA.out (by simp [laws_szStringS.l0])
   | succ k1 =>
    (have H := HA.out); clear HA; (simp only [laws_szStringS.l0] at H); (by_cases c4 : x5_1 < (l0.length : Int))
    ·rw [if_pos c4] at H
     (have c4b0 := decide_eq_true c4); clear c4; (by_cases c5 : 0 ≤ x5_1)
     ·rw [if_pos c5] at H
      (have c5b0 := decide_eq_true c5); clear c5; (by_cases c6 : (wrap64 (x1_1 - ((rdOf ByteArray.empty l0 x5_1).size : Int))) < 0)
      ·rw [if_pos c6] at H
       (have c6b0 := decide_eq_true c6); clear c6; (obtain rfl := Option.some.inj H); (have p101 : 0 ≤ (x5_1 : Int) := odt); (have q101 : x5_1 < (l0.length : Int) := odt); (obtain ⟨ad101, e101, hx101_0⟩ := Kd.at_string HR0.out x5_1 p101 q101); (cases e101); (replace p101 := eq_true p101); (replace q101 := eq_true q101); (go_wp2); go_ret; (exact ⟨by first | rfl | (simp; done) | (simp [*]; done), by repeat (first | exact Drawn0.refl _ | apply Drawn0.step)⟩)
      ·rw [if_neg c6] at H
       (have c6b0 := decide_eq_false c6); clear c6; (have H' := Aside0.mk H); clear H; (have p101 : 0 ≤ (x5_1 : Int) := odt); (have q101 : x5_1 < (l0.length : Int) := odt); (obtain ⟨ad101, e101, hx101_0⟩ := Kd.at_string HR0.out x5_1 p101 q101); (cases e101); (replace p101 := eq_true p101); (replace q101 := eq_true q101); (go_wp2); go_roundg k1
       case measure => have := HK1.out; omega
       case rel => exact ⟨(wrap64 (x1_1 - ((rdOf ByteArray.empty l0 x5_1).size : Int))), (wrap64 (x5_1 + 1)), (by first | rfl | (simp; done) | (simp [*]; done)), (by first | rfl | (simp; done) | (simp [*]; done)), H', ⟨by have := HK1.out; omega⟩, by repeat (first | exact Drawn0.refl _ | apply Drawn0.step)⟩
     ·rw [if_neg c5] at H
      exact absurd H (by simp)
    ·rw [if_neg c4] at H
     (have c4b0 := decide_eq_false c4); clear c4; (obtain rfl := Option.some.inj H); (go_wp2); go_ret; (exact ⟨by first | rfl | (simp; done) | (simp [*]; done), by repeat (first | exact Drawn0.refl _ | apply Drawn0.step)⟩)
/-! ### laws_szField: function 43 -/
def laws_szField.f (k : Nat) (a0_0 : ByteArray) (a0_1 : Int) (a0_2 : Int) (a0_3 : Int) (l0_4 : List ByteArray) (a0_5 : Bool) (a0_6 : ByteArray) (a1 : Int) : Option (Int) := if (wrap64 (a1 - (a0_0.size : Int))) < 0 then (some (-1)) else ((laws_szStringS.f k l0_4 (wrap64 (a1 - (a0_0.size : Int)))).bind fun t102 => (if t102 < 0 then (some (-1)) else (if (wrap64 (t102 - (a0_6.size : Int))) < 0 then (some (-1)) else (some (wrap64 (t102 - (a0_6.size : Int)))))))
set_option maxHeartbeats 8000000 in
set_option maxRecDepth 100000 in
theorem laws_szField.calls (k : Nat) (a0_0 : ByteArray) (a0_1 : Int) (a0_2 : Int) (a0_3 : Int) (A0_4 : Option Addr) (c0_4 : Nat) (l0_4 : List ByteArray) (a0_5 : Bool) (a0_6 : ByteArray) (a1 : Int) (r : Int) (w : World) (hr0_4 : Kd.C Kd.string w A0_4 l0_4.length l0_4) (hc0_4 : l0_4.length ≤ c0_4) (h : laws_szField.f k a0_0 a0_1 a0_2 a0_3 l0_4 a0_5 a0_6 a1 = some r) :
  Calls Tryd.prog 43 #[.agg #[.string a0_0, .int .i64 a0_1, .int .i64 a0_2, .int .i64 a0_3, .slice A0_4 l0_4.length c0_4, .bool a0_5, .string a0_6], .int .i64 a1] w fun e w' => e = .returned (.int .i64 r) ∧ Below w.heap.size w w' := by
 (have hu68 := Tryd.underlying68); (have HR0_4 := Aside0.mk hr0_4); (have HC0_4 := Aside0.mk hc0_4); clear hr0_4 hc0_4; (have HB := Aside0.mk (Below.refl w.heap.size w)); (unfold laws_szField.f at h); (have H := h); clear h; (by_cases c3 : (wrap64 (a1 - (a0_0.size : Int))) < 0); (· (rw [if_pos c3] at H); (have c3b0 := decide_eq_true c3); clear c3; (obtain rfl := Option.some.inj H); (go_enter Tryd.func43, Tryd.ntmps43); (go_wp2_with (first | ((with_reducible refine gate_dst (N := 2) rfl ?_); refine box_event ?hg (N := 2) ?hd (cs := #[.string a0_0, .int .i64 a0_1, .int .i64 a0_2, .int .i64 a0_3, .slice A0_4 l0_4.length c0_4, .bool a0_5, .string a0_6]) (t := 68) ?hr ?_; (case hd => rfl); (case hg => rfl); (case hr => first | (go_simp; done) | (go_simp; rfl)); intro gb101 hg w4 hbox hb; have hB_ := zI hb HB; have n0_ := Aside0.mk (below_step hB_ hb); have n1_ := Aside0.mk (hbox); have n2_ := Aside0.mk (bx0 hg hB_); have n3_ := n2_; clear HB; have HB := n0_; have BK101 := n1_; have GW101 := n2_; have GE101 := n3_; clear n0_ n1_ n2_ n3_ hB_ hb hbox hg; have hcz5_0 := cz BK101.out 0; have hcz5_1 := cz BK101.out 1; have hcz5_2 := cz BK101.out 2; have hcz5_3 := cz BK101.out 3; have hcz5_4 := cz BK101.out 4; have hcz5_5 := cz BK101.out 5; have hcz5_6 := cz BK101.out 6; have hfz5_0 := blk_frozen BK101.out 0; have hfz5_1 := blk_frozen BK101.out 1; have hfz5_2 := blk_frozen BK101.out 2; have hfz5_3 := blk_frozen BK101.out 3; have hfz5_4 := blk_frozen BK101.out 4; have hfz5_5 := blk_frozen BK101.out 5; have hfz5_6 := blk_frozen BK101.out 6))); go_ret; (exact ⟨rfl, eI HB⟩))
 ·rw [if_neg c3] at H
  (have c3b0 := decide_eq_false c3); clear c3; (replace H := obS H); (obtain ⟨t102, A6, H⟩ := H); (by_cases c7 : t102 < 0); (· (rw [if_pos c7] at H); (have c7b0 := decide_eq_true c7); clear c7; (obtain rfl := Option.some.inj H); (go_enter Tryd.func43, Tryd.ntmps43); (go_wp2_with (first | ((with_reducible refine gate_dst (N := 2) rfl ?_); refine box_event ?hg (N := 2) ?hd (cs := #[.string a0_0, .int .i64 a0_1, .int .i64 a0_2, .int .i64 a0_3, .slice A0_4 l0_4.length c0_4, .bool a0_5, .string a0_6]) (t := 68) ?hr ?_; (case hd => rfl); (case hg => rfl); (case hr => first | (go_simp; done) | (go_simp; rfl)); intro gb101 hg w8 hbox hb; have hB_ := zI hb HB; have n0_ := Aside0.mk (below_step hB_ hb); have n1_ := Aside0.mk (hbox); have n2_ := Aside0.mk (bx0 hg hB_); have n3_ := n2_; clear HB; have HB := n0_; have BK101 := n1_; have GW101 := n2_; have GE101 := n3_; clear n0_ n1_ n2_ n3_ hB_ hb hbox hg; have hcz9_0 := cz BK101.out 0; have hcz9_1 := cz BK101.out 1; have hcz9_2 := cz BK101.out 2; have hcz9_3 := cz BK101.out 3; have hcz9_4 := cz BK101.out 4; have hcz9_5 := cz BK101.out 5; have hcz9_6 := cz BK101.out 6; have hfz9_0 := blk_frozen BK101.out 0; have hfz9_1 := blk_frozen BK101.out 1; have hfz9_2 := blk_frozen BK101.out 2; have hfz9_3 := blk_frozen BK101.out 3; have hfz9_4 := blk_frozen BK101.out 4; have hfz9_5 := blk_frozen BK101.out 5; have hfz9_6 := blk_frozen BK101.out 6) | ((with_reducible refine gate_callee (f := 80) rfl ?_); refine gL (some 15) Tryd.func80 #[.slice A0_4 l0_4.length c0_4, .int .i64 (wrap64 (a1 - (a0_0.size : Int)))] ?_; (with_reducible refine (laws_szStringS.calls k _ _ l0_4 (wrap64 (a1 - (a0_0.size : Int))) t102 _ ?side1 ?side2 A6.out).mono ?_); (case side1 => exact Kd.C_below HR0_4.out (eI HB)); (case side2 => exact HC0_4.out); rintro e w' ⟨rfl, ⟨nd, rfl⟩⟩; refine ⟨_, rfl, ?_⟩))); go_ret; (exact ⟨rfl, eI HB⟩))
  ·rw [if_neg c7] at H
   (have c7b0 := decide_eq_false c7); clear c7; (by_cases c10 : (wrap64 (t102 - (a0_6.size : Int))) < 0); (· (rw [if_pos c10] at H); (have c10b0 := decide_eq_true c10); clear c10; (obtain rfl := Option.some.inj H); (go_enter Tryd.func43, Tryd.ntmps43); (go_wp2_with (first | ((with_reducible refine gate_dst (N := 2) rfl ?_); refine box_event ?hg (N := 2) ?hd (cs := #[.string a0_0, .int .i64 a0_1, .int .i64 a0_2, .int .i64 a0_3, .slice A0_4 l0_4.length c0_4, .bool a0_5, .string a0_6]) (t := 68) ?hr ?_; (case hd => rfl); (case hg => rfl); (case hr => first | (go_simp; done) | (go_simp; rfl)); intro gb101 hg w11 hbox hb; have hB_ := zI hb HB; have n0_ := Aside0.mk (below_step hB_ hb); have n1_ := Aside0.mk (hbox); have n2_ := Aside0.mk (bx0 hg hB_); have n3_ := n2_; clear HB; have HB := n0_; have BK101 := n1_; have GW101 := n2_; have GE101 := n3_; clear n0_ n1_ n2_ n3_ hB_ hb hbox hg; have hcz12_0 := cz BK101.out 0; have hcz12_1 := cz BK101.out 1; have hcz12_2 := cz BK101.out 2; have hcz12_3 := cz BK101.out 3; have hcz12_4 := cz BK101.out 4; have hcz12_5 := cz BK101.out 5; have hcz12_6 := cz BK101.out 6; have hfz12_0 := blk_frozen BK101.out 0; have hfz12_1 := blk_frozen BK101.out 1; have hfz12_2 := blk_frozen BK101.out 2; have hfz12_3 := blk_frozen BK101.out 3; have hfz12_4 := blk_frozen BK101.out 4; have hfz12_5 := blk_frozen BK101.out 5; have hfz12_6 := blk_frozen BK101.out 6) | ((with_reducible refine gate_callee (f := 80) rfl ?_); refine gL (some 15) Tryd.func80 #[.slice A0_4 l0_4.length c0_4, .int .i64 (wrap64 (a1 - (a0_0.size : Int)))] ?_; (with_reducible refine (laws_szStringS.calls k _ _ l0_4 (wrap64 (a1 - (a0_0.size : Int))) t102 _ ?side1 ?side2 A6.out).mono ?_); (case side1 => exact Kd.C_below HR0_4.out (eI HB)); (case side2 => exact HC0_4.out); rintro e w' ⟨rfl, ⟨nd, rfl⟩⟩; refine ⟨_, rfl, ?_⟩))); go_ret; (exact ⟨rfl, eI HB⟩)); (· (rw [if_neg c10] at H); (have c10b0 := decide_eq_false c10); clear c10; (obtain rfl := Option.some.inj H); (go_enter Tryd.func43, Tryd.ntmps43); (go_wp2_with (first | ((with_reducible refine gate_dst (N := 2) rfl ?_); refine box_event ?hg (N := 2) ?hd (cs := #[.string a0_0, .int .i64 a0_1, .int .i64 a0_2, .int .i64 a0_3, .slice A0_4 l0_4.length c0_4, .bool a0_5, .string a0_6]) (t := 68) ?hr ?_; (case hd => rfl); (case hg => rfl); (case hr => first | (go_simp; done) | (go_simp; rfl)); intro gb101 hg w13 hbox hb; have hB_ := zI hb HB; have n0_ := Aside0.mk (below_step hB_ hb); have n1_ := Aside0.mk (hbox); have n2_ := Aside0.mk (bx0 hg hB_); have n3_ := n2_; clear HB; have HB := n0_; have BK101 := n1_; have GW101 := n2_; have GE101 := n3_; clear n0_ n1_ n2_ n3_ hB_ hb hbox hg; have hcz14_0 := cz BK101.out 0; have hcz14_1 := cz BK101.out 1; have hcz14_2 := cz BK101.out 2; have hcz14_3 := cz BK101.out 3; have hcz14_4 := cz BK101.out 4; have hcz14_5 := cz BK101.out 5; have hcz14_6 := cz BK101.out 6; have hfz14_0 := blk_frozen BK101.out 0; have hfz14_1 := blk_frozen BK101.out 1; have hfz14_2 := blk_frozen BK101.out 2; have hfz14_3 := blk_frozen BK101.out 3; have hfz14_4 := blk_frozen BK101.out 4; have hfz14_5 := blk_frozen BK101.out 5; have hfz14_6 := blk_frozen BK101.out 6) | ((with_reducible refine gate_callee (f := 80) rfl ?_); refine gL (some 15) Tryd.func80 #[.slice A0_4 l0_4.length c0_4, .int .i64 (wrap64 (a1 - (a0_0.size : Int)))] ?_; (with_reducible refine (laws_szStringS.calls k _ _ l0_4 (wrap64 (a1 - (a0_0.size : Int))) t102 _ ?side1 ?side2 A6.out).mono ?_); (case side1 => exact Kd.C_below HR0_4.out (eI HB)); (case side2 => exact HC0_4.out); rintro e w' ⟨rfl, ⟨nd, rfl⟩⟩; refine ⟨_, rfl, ?_⟩))); go_ret; (exact ⟨rfl, eI HB⟩))
/-! ### laws_szFieldS: function 9 -/
def laws_szFieldS.l0 : Nat → List (S68) → Int → Int → Option (Int)
 | 0, _, _, _ => none
 | k + 1, x0, x1, x5 => if x5 < (x0.length : Int) then (if 0 ≤ x5 then ((laws_szField.f k ((rd_T68 x0 x5).f0) ((rd_T68 x0 x5).f1) ((rd_T68 x0 x5).f2) ((rd_T68 x0 x5).f3) ((rd_T68 x0 x5).f4) ((rd_T68 x0 x5).f5) ((rd_T68 x0 x5).f6) x1).bind fun t102 => (if t102 < 0 then (some (-1)) else (laws_szFieldS.l0 k x0 t102 (wrap64 (x5 + 1))))) else (none)) else (some x1)
def laws_szFieldS.f (k : Nat) (l0 : List (S68)) (a1 : Int) : Option (Int) := if (wrap64 (a1 - (l0.length : Int))) < 0 then (some (-1)) else (laws_szFieldS.l0 k l0 (wrap64 (a1 - (l0.length : Int))) 0)
set_option maxHeartbeats 8000000 in
set_option maxRecDepth 100000 in
theorem laws_szFieldS.calls (k : Nat) (A0 : Option Addr) (c0 : Nat) (l0 : List (S68)) (a1 : Int) (r : Int) (w : World) (hr0 : Kd.C k68 w A0 l0.length l0) (hc0 : l0.length ≤ c0) (h : laws_szFieldS.f k l0 a1 = some r) :
  Calls Tryd.prog 9 #[.slice A0 l0.length c0, .int .i64 a1] w fun e w' => e = .returned (.int .i64 r) ∧ Below w.heap.size w w' := by
 (have hu68 := Tryd.underlying68); (have HR0 := Aside0.mk hr0); (have HC0 := Aside0.mk hc0); clear hr0 hc0; (have HB := Aside0.mk (Below.refl w.heap.size w)); (unfold laws_szFieldS.f at h); (have H := h); clear h; (by_cases c3 : (wrap64 (a1 - (l0.length : Int))) < 0); (· (rw [if_pos c3] at H); (have c3b0 := decide_eq_true c3); clear c3; (obtain rfl := Option.some.inj H); (go_enter Tryd.func9, Tryd.ntmps9); (go_wp2); go_ret; (exact ⟨rfl, eI HB⟩))
 ·rw [if_neg c3] at H
  (have c3b0 := decide_eq_false c3); clear c3; (have H' := Aside0.mk H); clear H; (go_enter Tryd.func9, Tryd.ntmps9); (go_wp2); (go_loopg [1, 5] k (fun kq v1 v5 w' => ∃ (x1_1 : Int) (x5_1 : Int), v1 = .int .i64 x1_1 ∧ v5 = .int .i64 x5_1 ∧ Aside0 (laws_szFieldS.l0 kq l0 x1_1 x5_1 = some r) ∧ Aside0 (kq ≤ k) ∧ Aside0 (Below w.heap.size w w')))
  case atStart => exact ⟨(wrap64 (a1 - (l0.length : Int))), (0), (by first | rfl | (simp; done) | (simp [*]; done)), (by first | rfl | (simp; done) | (simp [*]; done)), H', ⟨Nat.le_refl _⟩, ⟨eI HB⟩⟩
  case round =>
   (clear H'); (try clear p2); (try clear c3); (try clear c3b0); (obtain ⟨x1_1, x5_1, rfl, rfl, HA, HK1, HB⟩ := hrel)
   cases gk with
   | zero => exact absurd HA.out (by simp [laws_szFieldS.l0])
   | succ k1 =>
    (have H := HA.out); clear HA; (simp only [laws_szFieldS.l0] at H); (by_cases c4 : x5_1 < (l0.length : Int))
    ·rw [if_pos c4] at H
     (have c4b0 := decide_eq_true c4); clear c4; (by_cases c5 : 0 ≤ x5_1)
     ·rw [if_pos c5] at H
      (have c5b0 := decide_eq_true c5); clear c5; (replace H := obS H); (obtain ⟨t102, A6, H⟩ := H); (by_cases c7 : t102 < 0)
      ·rw [if_pos c7] at H
       (have c7b0 := decide_eq_true c7); clear c7; (obtain rfl := Option.some.inj H); (have p101 : 0 ≤ (x5_1 : Int) := odt); (have q101 : x5_1 < (l0.length : Int) := odt); (obtain ⟨ad101, A101_4, c101_4, e101, hx101_0, hx101_1, hx101_2, hx101_3, hx101_4, hx101_5, hx101_6, hl101_4, hi101_4⟩ := at_T68 HR0.out x5_1 p101 q101); (cases e101); (replace hx101_0 := hcI HB hx101_0); (replace hx101_1 := hcI HB hx101_1); (replace hx101_2 := hcI HB hx101_2); (replace hx101_3 := hcI HB hx101_3); (replace hx101_4 := hcI HB hx101_4); (replace hx101_5 := hcI HB hx101_5); (replace hx101_6 := hcI HB hx101_6); (have HR101_4 := Aside0.mk hi101_4); (have HC101_4 := Aside0.mk hl101_4); clear hi101_4 hl101_4; (replace p101 := eq_true p101); (replace q101 := eq_true q101); (go_wp2_with (first | ((with_reducible refine gate_callee (f := 43) rfl ?_); refine gL (some 23) Tryd.func43 #[.agg #[.string ((rd_T68 l0 x5_1).f0), .int .i64 ((rd_T68 l0 x5_1).f1), .int .i64 ((rd_T68 l0 x5_1).f2), .int .i64 ((rd_T68 l0 x5_1).f3), .slice A101_4 ((rd_T68 l0 x5_1).f4).length c101_4, .bool ((rd_T68 l0 x5_1).f5), .string ((rd_T68 l0 x5_1).f6)], .int .i64 x1_1] ?_; (with_reducible refine (laws_szField.calls k1 ((rd_T68 l0 x5_1).f0) ((rd_T68 l0 x5_1).f1) ((rd_T68 l0 x5_1).f2) ((rd_T68 l0 x5_1).f3) _ _ ((rd_T68 l0 x5_1).f4) ((rd_T68 l0 x5_1).f5) ((rd_T68 l0 x5_1).f6) x1_1 t102 _ ?side1 ?side2 A6.out).mono ?_); (case side1 => exact Kd.C_below HR101_4.out (eI HB)); (case side2 => exact HC101_4.out); rintro e w8 ⟨rfl, hb⟩; refine ⟨_, rfl, ?_⟩; have n0_ := Aside0.mk (sI hb HB); clear HB; have HB := n0_; clear n0_; (try clear hb); (try clear hb2); (try clear hk); (try clear hi)))); go_ret; (exact ⟨rfl, eI HB⟩)
      ·rw [if_neg c7] at H
       (have c7b0 := decide_eq_false c7); clear c7; (have H' := Aside0.mk H); clear H; (have p101 : 0 ≤ (x5_1 : Int) := odt); (have q101 : x5_1 < (l0.length : Int) := odt); (obtain ⟨ad101, A101_4, c101_4, e101, hx101_0, hx101_1, hx101_2, hx101_3, hx101_4, hx101_5, hx101_6, hl101_4, hi101_4⟩ := at_T68 HR0.out x5_1 p101 q101); (cases e101); (replace hx101_0 := hcI HB hx101_0); (replace hx101_1 := hcI HB hx101_1); (replace hx101_2 := hcI HB hx101_2); (replace hx101_3 := hcI HB hx101_3); (replace hx101_4 := hcI HB hx101_4); (replace hx101_5 := hcI HB hx101_5); (replace hx101_6 := hcI HB hx101_6); (have HR101_4 := Aside0.mk hi101_4); (have HC101_4 := Aside0.mk hl101_4); clear hi101_4 hl101_4; (replace p101 := eq_true p101); (replace q101 := eq_true q101); (go_wp2_with (first | ((with_reducible refine gate_callee (f := 43) rfl ?_); refine gL (some 23) Tryd.func43 #[.agg #[.string ((rd_T68 l0 x5_1).f0), .int .i64 ((rd_T68 l0 x5_1).f1), .int .i64 ((rd_T68 l0 x5_1).f2), .int .i64 ((rd_T68 l0 x5_1).f3), .slice A101_4 ((rd_T68 l0 x5_1).f4).length c101_4, .bool ((rd_T68 l0 x5_1).f5), .string ((rd_T68 l0 x5_1).f6)], .int .i64 x1_1] ?_; (with_reducible refine (laws_szField.calls k1 ((rd_T68 l0 x5_1).f0) ((rd_T68 l0 x5_1).f1) ((rd_T68 l0 x5_1).f2) ((rd_T68 l0 x5_1).f3) _ _ ((rd_T68 l0 x5_1).f4) ((rd_T68 l0 x5_1).f5) ((rd_T68 l0 x5_1).f6) x1_1 t102 _ ?side1 ?side2 A6.out).mono ?_); (case side1 => exact Kd.C_below HR101_4.out (eI HB)); (case side2 => exact HC101_4.out); rintro e w9 ⟨rfl, hb⟩; refine ⟨_, rfl, ?_⟩; have n0_ := Aside0.mk (sI hb HB); clear HB; have HB := n0_; clear n0_; (try clear hb); (try clear hb2); (try clear hk); (try clear hi)))); go_roundg k1
       case measure => have := HK1.out; omega
       case rel => exact ⟨(t102), (wrap64 (x5_1 + 1)), (by first | rfl | (simp; done) | (simp [*]; done)), (by first | rfl | (simp; done) | (simp [*]; done)), H', ⟨by have := HK1.out; omega⟩, ⟨eI HB⟩⟩
     ·rw [if_neg c5] at H
      exact absurd H (by simp)
    ·rw [if_neg c4] at H
     (have c4b0 := decide_eq_false c4); clear c4; (obtain rfl := Option.some.inj H); (go_wp2); go_ret; (exact ⟨rfl, eI HB⟩)

end Go.Proofs.YtdogpphfofimeaaDoor.X
namespace Go.Proofs.YtdogpphfofimeaaDoor.X
open Go.RowKit Go.Proofs.YtdogpphfofimeaaDoorW.PrintWords Go.Proofs.YtdogpphfofimeaaDoorW.PrintLast Go.Proofs.YtdogpphfofimeaaDoorW.PrintMore
set_option linter.unusedVariables false
set_option linter.unusedSimpArgs false
def laws_FnExactCheckAnswers.f (k : Nat) (l0 : List (S68)) (l1 : List (S76)) : Option Bool := (laws_szFieldS.f k l0 1048576).bind fun t1 => if t1 < 0 then some true else (laws_szAnswerS.f k l1 t1).bind fun t6 => if t6 < 0 then some true else (laws_toFieldS.f k l0).bind fun t11 => (laws_toAnswerS.f k l1).bind fun t24 => (spec_CheckAnswers.f k t11 t24).bind fun ⟨t37, t38⟩ => (laws_toFieldS.f k l0).bind fun t53 => (laws_toAnswerS.f k l1).bind fun t66 => (impl_CheckAnswers.f k t53 t66).bind fun ⟨t79, t80⟩ => (laws_eqIntS.f k t79 t37).bind fun t95 => if t95 = true then if t80 = t38 then (laws_toFieldS.f k l0).bind fun t102 => (laws_eqFieldS.f k t53 t102).bind fun t115 => if t115 = true then (laws_toAnswerS.f k l1).bind fun t122 => (laws_eqAnswerS.f k t66 t122).bind fun t135 => if t135 = true then (laws_markFieldS.f k t53 1).bind fun ⟨t142, t143⟩ => (laws_markAnswerS.f k t66 t142).bind fun ⟨t148, t149⟩ => if ¬ t148 < 0 then (laws_eqIntS.f k t79 t37).bind fun t154 => if t154 = true then if t80 = t38 then (laws_markIntS.f k t79 1).bind fun ⟨t161, t162⟩ => (laws_heldIntS.f k t162 1).bind fun t167 => if ¬ t167 < 0 then if t167 = t161 then (laws_toFieldS.f k l0).bind fun t172 => (laws_toAnswerS.f k l1).bind fun t185 => (impl_CheckAnswers.f k t172 t185).bind fun ⟨t198, t199⟩ => (laws_eqIntS.f k t198 t37).bind fun t214 => if t214 = true then if t199 = t38 then (laws_heldIntS.f k t162 1).bind fun t221 => if ¬ t221 < 0 then if t221 = t161 then some true else none else none else none else none else none else none else none else none else none else none else none else none else none
set_option maxHeartbeats 8000000 in
set_option maxRecDepth 100000 in
theorem laws_FnExactCheckAnswers.calls (k : Nat) (A0 : Option Addr) (c0 : Nat) (l0 : List (S68)) (A1 : Option Addr) (c1 : Nat) (l1 : List (S76)) (r : Bool) (w : World) (hr0 : Kd.C k68 w A0 l0.length l0) (hc0 : l0.length ≤ c0) (hr1 : Kd.C k76 w A1 l1.length l1) (hc1 : l1.length ≤ c1) (hG : GE w) (h : laws_FnExactCheckAnswers.f k l0 l1 = some r) :
  Calls Tryd.prog 5 #[.slice A0 l0.length c0, .slice A1 l1.length c1] w fun e w' => e = .returned (.bool r) ∧ Below w.heap.size w w' := by
 have HR0 := Aside0.mk hr0
 have HC0 := Aside0.mk hc0
 clear hr0 hc0
 have HR1 := Aside0.mk hr1
 have HC1 := Aside0.mk hc1
 clear hr1 hc1
 have HG := Aside0.mk hG
 have HB := Aside0.mk (Below.refl w.heap.size w)
 have HS := Aside0.mk (Nat.le_refl w.heap.size)
 unfold laws_FnExactCheckAnswers.f at h
 have H := h
 clear h
 replace H := obS H; obtain ⟨t1, A_2, H⟩ := H
 by_cases c226 : t1 < 0
 ·rw [if_pos c226] at H
  have c226b := decide_eq_true c226
  clear c226
  obtain rfl := Option.some.inj H
  go_enter Tryd.func5, Tryd.ntmps5
  go_wp2_with (first | ((with_reducible refine gate_callee (f := 9) rfl ?_); refine gL (some 19) Tryd.func9 #[.slice A0 l0.length c0, .int .i64 1048576] ?_; (with_reducible refine (laws_szFieldS.calls k _ _ _ _ _ _ ?s_4 ?s_5 A_2.out).mono ?_); (case s_4 => exact Kd.C_below HR0.out (eI HB)); (case s_5 => exact HC0.out); rintro e w_3 ⟨rfl, hb⟩; refine ⟨_, rfl, ?_⟩; have n0_ := Aside0.mk (sI hb HB); have n1_ := Aside0.mk (leI hb HS); clear HB HS; have HB := n0_; have HS := n1_; clear n0_ n1_ hb))
  go_ret
  exact ⟨rfl, eI HB⟩
 rw [if_neg c226] at H
 have c226b := decide_eq_false c226
 clear c226
 replace H := obS H; obtain ⟨t6, A_7, H⟩ := H
 by_cases c227 : t6 < 0
 ·rw [if_pos c227] at H
  have c227b := decide_eq_true c227
  clear c227
  obtain rfl := Option.some.inj H
  go_enter Tryd.func5, Tryd.ntmps5
  go_wp2_with (first | ((with_reducible refine gate_callee (f := 9) rfl ?_); refine gL (some 19) Tryd.func9 #[.slice A0 l0.length c0, .int .i64 1048576] ?_; (with_reducible refine (laws_szFieldS.calls k _ _ _ _ _ _ ?s_4 ?s_5 A_2.out).mono ?_); (case s_4 => exact Kd.C_below HR0.out (eI HB)); (case s_5 => exact HC0.out); rintro e w_3 ⟨rfl, hb⟩; refine ⟨_, rfl, ?_⟩; have n0_ := Aside0.mk (sI hb HB); have n1_ := Aside0.mk (leI hb HS); clear HB HS; have HB := n0_; have HS := n1_; clear n0_ n1_ hb) | ((with_reducible refine gate_callee (f := 14) rfl ?_); refine gL (some 24) Tryd.func14 #[.slice A1 l1.length c1, .int .i64 t1] ?_; (with_reducible refine (laws_szAnswerS.calls k _ _ _ _ _ _ ?s_9 ?s_10 A_7.out).mono ?_); (case s_9 => exact Kd.C_below HR1.out (eI HB)); (case s_10 => exact HC1.out); rintro e w_8 ⟨rfl, hb⟩; refine ⟨_, rfl, ?_⟩; have n0_ := Aside0.mk (sI hb HB); have n1_ := Aside0.mk (leI hb HS); clear HB HS; have HB := n0_; have HS := n1_; clear n0_ n1_ hb))
  go_ret
  exact ⟨rfl, eI HB⟩
 rw [if_neg c227] at H
 have c227b := decide_eq_false c227
 clear c227
 replace H := obS H; obtain ⟨t11, A_12, H⟩ := H
 replace H := obS H; obtain ⟨t24, A_25, H⟩ := H
 replace H := obS H; obtain ⟨⟨t37, t38⟩, A_39, H⟩ := H
 replace H := obS H; obtain ⟨t53, A_54, H⟩ := H
 replace H := obS H; obtain ⟨t66, A_67, H⟩ := H
 replace H := obS H; obtain ⟨⟨t79, t80⟩, A_81, H⟩ := H
 replace H := obS H; obtain ⟨t95, A_96, H⟩ := H
 replace H := needS H; obtain ⟨c228, H⟩ := H
 subst c228
 replace H := needS H; obtain ⟨c229, H⟩ := H
 have c229b := bne_eq_false_iff_eq.mpr c229
 have c229d := beq_iff_eq.mpr c229
 clear c229
 replace H := obS H; obtain ⟨t102, A_103, H⟩ := H
 replace H := obS H; obtain ⟨t115, A_116, H⟩ := H
 replace H := needS H; obtain ⟨c230, H⟩ := H
 subst c230
 replace H := obS H; obtain ⟨t122, A_123, H⟩ := H
 replace H := obS H; obtain ⟨t135, A_136, H⟩ := H
 replace H := needS H; obtain ⟨c231, H⟩ := H
 subst c231
 replace H := obS H; obtain ⟨⟨t142, t143⟩, A_144, H⟩ := H
 replace H := obS H; obtain ⟨⟨t148, t149⟩, A_150, H⟩ := H
 replace H := needS H; obtain ⟨c232, H⟩ := H
 have c232b := decide_eq_false c232
 clear c232
 replace H := obS H; obtain ⟨t154, A_155, H⟩ := H
 replace H := needS H; obtain ⟨c233, H⟩ := H
 subst c233
 replace H := needS H; obtain ⟨c234, H⟩ := H
 have c234b := bne_eq_false_iff_eq.mpr c234
 have c234d := beq_iff_eq.mpr c234
 clear c234
 replace H := obS H; obtain ⟨⟨t161, t162⟩, A_163, H⟩ := H
 replace H := obS H; obtain ⟨t167, A_168, H⟩ := H
 replace H := needS H; obtain ⟨c235, H⟩ := H
 have c235b := decide_eq_false c235
 clear c235
 replace H := needS H; obtain ⟨c236, H⟩ := H
 have c236b := bne_eq_false_iff_eq.mpr c236
 have c236d := beq_iff_eq.mpr c236
 clear c236
 replace H := obS H; obtain ⟨t172, A_173, H⟩ := H
 replace H := obS H; obtain ⟨t185, A_186, H⟩ := H
 replace H := obS H; obtain ⟨⟨t198, t199⟩, A_200, H⟩ := H
 replace H := obS H; obtain ⟨t214, A_215, H⟩ := H
 replace H := needS H; obtain ⟨c237, H⟩ := H
 subst c237
 replace H := needS H; obtain ⟨c238, H⟩ := H
 have c238b := bne_eq_false_iff_eq.mpr c238
 have c238d := beq_iff_eq.mpr c238
 clear c238
 replace H := obS H; obtain ⟨t221, A_222, H⟩ := H
 replace H := needS H; obtain ⟨c239, H⟩ := H
 have c239b := decide_eq_false c239
 clear c239
 replace H := needS H; obtain ⟨c240, H⟩ := H
 have c240b := bne_eq_false_iff_eq.mpr c240
 have c240d := beq_iff_eq.mpr c240
 clear c240
 obtain rfl := Option.some.inj H
 go_enter Tryd.func5, Tryd.ntmps5
 go_wp2_with (first | ((with_reducible refine gate_callee (f := 9) rfl ?_); refine gL (some 19) Tryd.func9 #[.slice A0 l0.length c0, .int .i64 1048576] ?_; (with_reducible refine (laws_szFieldS.calls k _ _ _ _ _ _ ?s_4 ?s_5 A_2.out).mono ?_); (case s_4 => exact Kd.C_below HR0.out (eI HB)); (case s_5 => exact HC0.out); rintro e w_3 ⟨rfl, hb⟩; refine ⟨_, rfl, ?_⟩; have n0_ := Aside0.mk (sI hb HB); have n1_ := Aside0.mk (leI hb HS); clear HB HS; have HB := n0_; have HS := n1_; clear n0_ n1_ hb) | ((with_reducible refine gate_callee (f := 14) rfl ?_); refine gL (some 24) Tryd.func14 #[.slice A1 l1.length c1, .int .i64 t1] ?_; (with_reducible refine (laws_szAnswerS.calls k _ _ _ _ _ _ ?s_9 ?s_10 A_7.out).mono ?_); (case s_9 => exact Kd.C_below HR1.out (eI HB)); (case s_10 => exact HC1.out); rintro e w_8 ⟨rfl, hb⟩; refine ⟨_, rfl, ?_⟩; have n0_ := Aside0.mk (sI hb HB); have n1_ := Aside0.mk (leI hb HS); clear HB HS; have HB := n0_; have HS := n1_; clear n0_ n1_ hb) | ((with_reducible refine gate_callee (f := 11) rfl ?_); refine gL (some 29) Tryd.func11 #[.slice A0 l0.length c0] ?_; (with_reducible refine (laws_toFieldS.calls k _ _ _ _ _ ?s_14 ?s_15 A_12.out).mono ?_); (case s_14 => exact Kd.C_below HR0.out (eI HB)); (case s_15 => exact HC0.out); rintro e w_13 ⟨v17, rfl, ho16, hb⟩; refine ⟨_, rfl, ?_⟩; obtain ⟨lo18, hi19, hle_, hsz_, hin_⟩ := newRng HB HS hb; have ho_0 := Aside0.mk (hin_.s ho16); have n0_ := Aside0.mk (sI hb HB); have n1_ := Aside0.mk (hsz_); clear HB HS; have HB := n0_; have HS := n1_; clear n0_ n1_ hb; have HE20 := Aside0.mk hle_; clear hle_ hsz_ hin_ ho16; have HO23 := ho_0; clear ho_0; obtain ⟨Ao21, co22, e_⟩ := Kd.R_slice (Kd.S_R HO23.out); subst e_) | ((with_reducible refine gate_callee (f := 16) rfl ?_); refine gL (some 31) Tryd.func16 #[.slice A1 l1.length c1] ?_; (with_reducible refine (laws_toAnswerS.calls k _ _ _ _ _ ?s_27 ?s_28 A_25.out).mono ?_); (case s_27 => exact Kd.C_below HR1.out (eI HB)); (case s_28 => exact HC1.out); rintro e w_26 ⟨v30, rfl, ho29, hb⟩; refine ⟨_, rfl, ?_⟩; obtain ⟨lo31, hi32, hle_, hsz_, hin_⟩ := newRng HB HS hb; have ho_0 := Aside0.mk (hin_.r ho29); have n0_ := Aside0.mk (sbI hb HO23); have n1_ := Aside0.mk (sI hb HB); have n2_ := Aside0.mk (hsz_); clear HO23 HB HS; have HO23 := n0_; have HB := n1_; have HS := n2_; clear n0_ n1_ n2_ hb; have HE33 := Aside0.mk hle_; clear hle_ hsz_ hin_ ho29; have HO36 := ho_0; clear ho_0; obtain ⟨Ao34, co35, e_⟩ := Kd.R_slice (HO36.out); subst e_) | ((with_reducible refine gate_callee (f := 19) rfl ?_); refine gL (some 32) Tryd.func19 #[.slice Ao21 t11.length co22, .slice Ao34 t24.length co35] ?_; (with_reducible refine (spec_CheckAnswers.calls k _ _ _ _ _ _ _ _ _ ?s_41 ?s_42 ?s_43 ?s_44 A_39.out).mono ?_); (case s_41 => exact (scI HO23).1); (case s_42 => exact (scR HO23).2); (case s_43 => exact (rcI HO36).1); (case s_44 => exact (rcR HO36).2); rintro e w_40 ⟨v46, rfl, ho45, hb⟩; refine ⟨_, rfl, ?_⟩; obtain ⟨lo47, hi48, hle_, hsz_, hin_⟩ := newRng HB HS hb; have ho_0 := Aside0.mk (hin_.r ho45); have n0_ := Aside0.mk (sbI hb HO23); have n1_ := Aside0.mk (rbI hb HO36); have n2_ := Aside0.mk (sI hb HB); have n3_ := Aside0.mk (hsz_); clear HO23 HO36 HB HS; have HO23 := n0_; have HO36 := n1_; have HB := n2_; have HS := n3_; clear n0_ n1_ n2_ n3_ hb; have HE49 := Aside0.mk hle_; clear hle_ hsz_ hin_ ho45; have HO52 := ho_0; clear ho_0; obtain ⟨Ao50, co51, e_⟩ := Kd.R_slice (HO52.out); subst e_) | ((with_reducible refine gate_callee (f := 11) rfl ?_); refine gL (some 36) Tryd.func11 #[.slice A0 l0.length c0] ?_; (with_reducible refine (laws_toFieldS.calls k _ _ _ _ _ ?s_56 ?s_57 A_54.out).mono ?_); (case s_56 => exact Kd.C_below HR0.out (eI HB)); (case s_57 => exact HC0.out); rintro e w_55 ⟨v59, rfl, ho58, hb⟩; refine ⟨_, rfl, ?_⟩; obtain ⟨lo60, hi61, hle_, hsz_, hin_⟩ := newRng HB HS hb; have ho_0 := Aside0.mk (hin_.s ho58); have n0_ := Aside0.mk (sbI hb HO23); have n1_ := Aside0.mk (rbI hb HO36); have n2_ := Aside0.mk (rbI hb HO52); have n3_ := Aside0.mk (sI hb HB); have n4_ := Aside0.mk (hsz_); clear HO23 HO36 HO52 HB HS; have HO23 := n0_; have HO36 := n1_; have HO52 := n2_; have HB := n3_; have HS := n4_; clear n0_ n1_ n2_ n3_ n4_ hb; have HE62 := Aside0.mk hle_; clear hle_ hsz_ hin_ ho58; have HO65 := ho_0; clear ho_0; obtain ⟨Ao63, co64, e_⟩ := Kd.R_slice (Kd.S_R HO65.out); subst e_) | ((with_reducible refine gate_callee (f := 16) rfl ?_); refine gL (some 38) Tryd.func16 #[.slice A1 l1.length c1] ?_; (with_reducible refine (laws_toAnswerS.calls k _ _ _ _ _ ?s_69 ?s_70 A_67.out).mono ?_); (case s_69 => exact Kd.C_below HR1.out (eI HB)); (case s_70 => exact HC1.out); rintro e w_68 ⟨v72, rfl, ho71, hb⟩; refine ⟨_, rfl, ?_⟩; obtain ⟨lo73, hi74, hle_, hsz_, hin_⟩ := newRng HB HS hb; have ho_0 := Aside0.mk (hin_.r ho71); have n0_ := Aside0.mk (sbI hb HO23); have n1_ := Aside0.mk (rbI hb HO36); have n2_ := Aside0.mk (rbI hb HO52); have n3_ := Aside0.mk (sbI hb HO65); have n4_ := Aside0.mk (sI hb HB); have n5_ := Aside0.mk (hsz_); clear HO23 HO36 HO52 HO65 HB HS; have HO23 := n0_; have HO36 := n1_; have HO52 := n2_; have HO65 := n3_; have HB := n4_; have HS := n5_; clear n0_ n1_ n2_ n3_ n4_ n5_ hb; have HE75 := Aside0.mk hle_; clear hle_ hsz_ hin_ ho71; have HO78 := ho_0; clear ho_0; obtain ⟨Ao76, co77, e_⟩ := Kd.R_slice (HO78.out); subst e_) | ((with_reducible refine gate_callee (f := 20) rfl ?_); refine gL (some 42) Tryd.func20 #[.slice Ao63 t53.length co64, .slice Ao76 t66.length co77] ?_; (with_reducible refine (impl_CheckAnswers.calls k _ _ _ _ _ _ _ _ _ ?s_83 ?s_84 ?s_85 ?s_86 (GE.below HG.out (eI HB)) A_81.out).mono ?_); (case s_83 => exact (scI HO65).1); (case s_84 => exact (scR HO65).2); (case s_85 => exact (rcI HO78).1); (case s_86 => exact (rcR HO78).2); rintro e w_82 ⟨v88, rfl, ho87, hb⟩; refine ⟨_, rfl, ?_⟩; obtain ⟨lo89, hi90, hle_, hsz_, hin_⟩ := newRng HB HS hb; have ho_0 := Aside0.mk (hin_.r ho87); have n0_ := Aside0.mk (sbI hb HO23); have n1_ := Aside0.mk (rbI hb HO36); have n2_ := Aside0.mk (rbI hb HO52); have n3_ := Aside0.mk (sbI hb HO65); have n4_ := Aside0.mk (rbI hb HO78); have n5_ := Aside0.mk (sI hb HB); have n6_ := Aside0.mk (hsz_); clear HO23 HO36 HO52 HO65 HO78 HB HS; have HO23 := n0_; have HO36 := n1_; have HO52 := n2_; have HO65 := n3_; have HO78 := n4_; have HB := n5_; have HS := n6_; clear n0_ n1_ n2_ n3_ n4_ n5_ n6_ hb; have HE91 := Aside0.mk hle_; clear hle_ hsz_ hin_ ho87; have HO94 := ho_0; clear ho_0; obtain ⟨Ao92, co93, e_⟩ := Kd.R_slice (HO94.out); subst e_) | ((with_reducible refine gate_callee (f := 21) rfl ?_); refine gL (some 47) Tryd.func21 #[.slice Ao92 t79.length co93, .slice Ao50 t37.length co51] ?_; (with_reducible refine (laws_eqIntS.calls k _ _ _ _ _ _ _ _ ?s_98 ?s_99 ?s_100 ?s_101 A_96.out ⟨rfl⟩).mono ?_); (case s_98 => exact (rcI HO94).1); (case s_99 => exact (rcR HO94).2); (case s_100 => exact (rcI HO52).1); (case s_101 => exact (rcR HO52).2); rintro e w' ⟨rfl, ⟨nd, rfl⟩⟩; refine ⟨_, rfl, ?_⟩) | ((with_reducible refine gate_callee (f := 11) rfl ?_); refine gL (some 56) Tryd.func11 #[.slice A0 l0.length c0] ?_; (with_reducible refine (laws_toFieldS.calls k _ _ _ _ _ ?s_105 ?s_106 A_103.out).mono ?_); (case s_105 => exact Kd.C_below HR0.out (eI HB)); (case s_106 => exact HC0.out); rintro e w_104 ⟨v108, rfl, ho107, hb⟩; refine ⟨_, rfl, ?_⟩; obtain ⟨lo109, hi110, hle_, hsz_, hin_⟩ := newRng HB HS hb; have ho_0 := Aside0.mk (hin_.s ho107); have n0_ := Aside0.mk (sbI hb HO23); have n1_ := Aside0.mk (rbI hb HO36); have n2_ := Aside0.mk (rbI hb HO52); have n3_ := Aside0.mk (sbI hb HO65); have n4_ := Aside0.mk (rbI hb HO78); have n5_ := Aside0.mk (rbI hb HO94); have n6_ := Aside0.mk (sI hb HB); have n7_ := Aside0.mk (hsz_); clear HO23 HO36 HO52 HO65 HO78 HO94 HB HS; have HO23 := n0_; have HO36 := n1_; have HO52 := n2_; have HO65 := n3_; have HO78 := n4_; have HO94 := n5_; have HB := n6_; have HS := n7_; clear n0_ n1_ n2_ n3_ n4_ n5_ n6_ n7_ hb; have HE111 := Aside0.mk hle_; clear hle_ hsz_ hin_ ho107; have HO114 := ho_0; clear ho_0; obtain ⟨Ao112, co113, e_⟩ := Kd.R_slice (Kd.S_R HO114.out); subst e_) | ((with_reducible refine gate_callee (f := 13) rfl ?_); refine gL (some 57) Tryd.func13 #[.slice Ao63 t53.length co64, .slice Ao112 t102.length co113] ?_; (with_reducible refine (laws_eqFieldS.calls k _ _ _ _ _ _ _ _ ?s_118 ?s_119 ?s_120 ?s_121 A_116.out ⟨rfl⟩).mono ?_); (case s_118 => exact (scI HO65).1); (case s_119 => exact (scR HO65).2); (case s_120 => exact (scI HO114).1); (case s_121 => exact (scR HO114).2); rintro e w_117 ⟨rfl, hb⟩; refine ⟨_, rfl, ?_⟩; have n0_ := Aside0.mk (sbI hb HO23); have n1_ := Aside0.mk (rbI hb HO36); have n2_ := Aside0.mk (rbI hb HO52); have n3_ := Aside0.mk (sbI hb HO65); have n4_ := Aside0.mk (rbI hb HO78); have n5_ := Aside0.mk (rbI hb HO94); have n6_ := Aside0.mk (sbI hb HO114); have n7_ := Aside0.mk (sI hb HB); have n8_ := Aside0.mk (leI hb HS); clear HO23 HO36 HO52 HO65 HO78 HO94 HO114 HB HS; have HO23 := n0_; have HO36 := n1_; have HO52 := n2_; have HO65 := n3_; have HO78 := n4_; have HO94 := n5_; have HO114 := n6_; have HB := n7_; have HS := n8_; clear n0_ n1_ n2_ n3_ n4_ n5_ n6_ n7_ n8_ hb) | ((with_reducible refine gate_callee (f := 16) rfl ?_); refine gL (some 61) Tryd.func16 #[.slice A1 l1.length c1] ?_; (with_reducible refine (laws_toAnswerS.calls k _ _ _ _ _ ?s_125 ?s_126 A_123.out).mono ?_); (case s_125 => exact Kd.C_below HR1.out (eI HB)); (case s_126 => exact HC1.out); rintro e w_124 ⟨v128, rfl, ho127, hb⟩; refine ⟨_, rfl, ?_⟩; obtain ⟨lo129, hi130, hle_, hsz_, hin_⟩ := newRng HB HS hb; have ho_0 := Aside0.mk (hin_.r ho127); have n0_ := Aside0.mk (sbI hb HO23); have n1_ := Aside0.mk (rbI hb HO36); have n2_ := Aside0.mk (rbI hb HO52); have n3_ := Aside0.mk (sbI hb HO65); have n4_ := Aside0.mk (rbI hb HO78); have n5_ := Aside0.mk (rbI hb HO94); have n6_ := Aside0.mk (sbI hb HO114); have n7_ := Aside0.mk (sI hb HB); have n8_ := Aside0.mk (hsz_); clear HO23 HO36 HO52 HO65 HO78 HO94 HO114 HB HS; have HO23 := n0_; have HO36 := n1_; have HO52 := n2_; have HO65 := n3_; have HO78 := n4_; have HO94 := n5_; have HO114 := n6_; have HB := n7_; have HS := n8_; clear n0_ n1_ n2_ n3_ n4_ n5_ n6_ n7_ n8_ hb; have HE131 := Aside0.mk hle_; clear hle_ hsz_ hin_ ho127; have HO134 := ho_0; clear ho_0; obtain ⟨Ao132, co133, e_⟩ := Kd.R_slice (HO134.out); subst e_) | ((with_reducible refine gate_callee (f := 18) rfl ?_); refine gL (some 62) Tryd.func18 #[.slice Ao76 t66.length co77, .slice Ao132 t122.length co133] ?_; (with_reducible refine (laws_eqAnswerS.calls k _ _ _ _ _ _ _ _ ?s_138 ?s_139 ?s_140 ?s_141 A_136.out ⟨rfl⟩).mono ?_); (case s_138 => exact (rcI HO78).1); (case s_139 => exact (rcR HO78).2); (case s_140 => exact (rcI HO134).1); (case s_141 => exact (rcR HO134).2); rintro e w_137 ⟨rfl, hb⟩; refine ⟨_, rfl, ?_⟩; have n0_ := Aside0.mk (sbI hb HO23); have n1_ := Aside0.mk (rbI hb HO36); have n2_ := Aside0.mk (rbI hb HO52); have n3_ := Aside0.mk (sbI hb HO65); have n4_ := Aside0.mk (rbI hb HO78); have n5_ := Aside0.mk (rbI hb HO94); have n6_ := Aside0.mk (sbI hb HO114); have n7_ := Aside0.mk (rbI hb HO134); have n8_ := Aside0.mk (sI hb HB); have n9_ := Aside0.mk (leI hb HS); clear HO23 HO36 HO52 HO65 HO78 HO94 HO114 HO134 HB HS; have HO23 := n0_; have HO36 := n1_; have HO52 := n2_; have HO65 := n3_; have HO78 := n4_; have HO94 := n5_; have HO114 := n6_; have HO134 := n7_; have HB := n8_; have HS := n9_; clear n0_ n1_ n2_ n3_ n4_ n5_ n6_ n7_ n8_ n9_ hb) | ((with_reducible refine gate_callee (f := 22) rfl ?_); refine gL (some 66) Tryd.func22 #[.slice Ao63 t53.length co64, .int .i64 1] ?_; (with_reducible refine (laws_markFieldS.calls k (fun k_ => lo60 ≤ k_ ∧ k_ < hi61) _ _ _ _ _ w _ (eI HB) (sbI0 HO65) A_144.out).mono ?_); rintro e w_145 ⟨rfl, ho146, hb, hk⟩; refine ⟨_, rfl, ?_⟩; have hkp := keptRng (lo := lo60) (hi := hi61) hk (fun k_ h_ => by first | exact h_ | exact h_.elim id id); clear HO65; have n0_ := Aside0.mk (ksI hkp HO23 (by have h0_ := HE20.out; have h1_ := HE33.out; have h2_ := HE49.out; have h3_ := HE62.out; have h4_ := HE75.out; have h5_ := HE91.out; have h6_ := HE111.out; have h7_ := HE131.out; omega)); have n1_ := Aside0.mk (krI hkp HO36 (by have h0_ := HE20.out; have h1_ := HE33.out; have h2_ := HE49.out; have h3_ := HE62.out; have h4_ := HE75.out; have h5_ := HE91.out; have h6_ := HE111.out; have h7_ := HE131.out; omega)); have n2_ := Aside0.mk (krI hkp HO52 (by have h0_ := HE20.out; have h1_ := HE33.out; have h2_ := HE49.out; have h3_ := HE62.out; have h4_ := HE75.out; have h5_ := HE91.out; have h6_ := HE111.out; have h7_ := HE131.out; omega)); have n3_ := Aside0.mk (krI hkp HO78 (by have h0_ := HE20.out; have h1_ := HE33.out; have h2_ := HE49.out; have h3_ := HE62.out; have h4_ := HE75.out; have h5_ := HE91.out; have h6_ := HE111.out; have h7_ := HE131.out; omega)); have n4_ := Aside0.mk (krI hkp HO94 (by have h0_ := HE20.out; have h1_ := HE33.out; have h2_ := HE49.out; have h3_ := HE62.out; have h4_ := HE75.out; have h5_ := HE91.out; have h6_ := HE111.out; have h7_ := HE131.out; omega)); have n5_ := Aside0.mk (ksI hkp HO114 (by have h0_ := HE20.out; have h1_ := HE33.out; have h2_ := HE49.out; have h3_ := HE62.out; have h4_ := HE75.out; have h5_ := HE91.out; have h6_ := HE111.out; have h7_ := HE131.out; omega)); have n6_ := Aside0.mk (krI hkp HO134 (by have h0_ := HE20.out; have h1_ := HE33.out; have h2_ := HE49.out; have h3_ := HE62.out; have h4_ := HE75.out; have h5_ := HE91.out; have h6_ := HE111.out; have h7_ := HE131.out; omega)); have n7_ := Aside0.mk (hb); have n8_ := Aside0.mk (leK hk HS); clear HO23 HO36 HO52 HO78 HO94 HO114 HO134 HB HS; have HO23 := n0_; have HO36 := n1_; have HO52 := n2_; have HO78 := n3_; have HO94 := n4_; have HO114 := n5_; have HO134 := n6_; have HB := n7_; have HS := n8_; clear n0_ n1_ n2_ n3_ n4_ n5_ n6_ n7_ n8_ hb hk hkp ho146) | ((with_reducible refine gate_callee (f := 23) rfl ?_); refine gL (some 69) Tryd.func23 #[.slice Ao76 t66.length co77, .int .i64 t142] ?_; (with_reducible refine (laws_markAnswerS.calls k (fun k_ => lo73 ≤ k_ ∧ k_ < hi74) _ _ _ _ _ w _ (eI HB) (rI HO78) A_150.out).mono ?_); rintro e w_151 ⟨rfl, ho152, hb, hk⟩; refine ⟨_, rfl, ?_⟩; have hkp := keptRng (lo := lo73) (hi := hi74) hk (fun k_ h_ => by first | exact h_ | exact h_.elim id id); clear HO78; have n0_ := Aside0.mk (ksI hkp HO23 (by have h0_ := HE20.out; have h1_ := HE33.out; have h2_ := HE49.out; have h3_ := HE62.out; have h4_ := HE75.out; have h5_ := HE91.out; have h6_ := HE111.out; have h7_ := HE131.out; omega)); have n1_ := Aside0.mk (krI hkp HO36 (by have h0_ := HE20.out; have h1_ := HE33.out; have h2_ := HE49.out; have h3_ := HE62.out; have h4_ := HE75.out; have h5_ := HE91.out; have h6_ := HE111.out; have h7_ := HE131.out; omega)); have n2_ := Aside0.mk (krI hkp HO52 (by have h0_ := HE20.out; have h1_ := HE33.out; have h2_ := HE49.out; have h3_ := HE62.out; have h4_ := HE75.out; have h5_ := HE91.out; have h6_ := HE111.out; have h7_ := HE131.out; omega)); have n3_ := Aside0.mk (krI hkp HO94 (by have h0_ := HE20.out; have h1_ := HE33.out; have h2_ := HE49.out; have h3_ := HE62.out; have h4_ := HE75.out; have h5_ := HE91.out; have h6_ := HE111.out; have h7_ := HE131.out; omega)); have n4_ := Aside0.mk (ksI hkp HO114 (by have h0_ := HE20.out; have h1_ := HE33.out; have h2_ := HE49.out; have h3_ := HE62.out; have h4_ := HE75.out; have h5_ := HE91.out; have h6_ := HE111.out; have h7_ := HE131.out; omega)); have n5_ := Aside0.mk (krI hkp HO134 (by have h0_ := HE20.out; have h1_ := HE33.out; have h2_ := HE49.out; have h3_ := HE62.out; have h4_ := HE75.out; have h5_ := HE91.out; have h6_ := HE111.out; have h7_ := HE131.out; omega)); have n6_ := Aside0.mk (hb); have n7_ := Aside0.mk (leK hk HS); clear HO23 HO36 HO52 HO94 HO114 HO134 HB HS; have HO23 := n0_; have HO36 := n1_; have HO52 := n2_; have HO94 := n3_; have HO114 := n4_; have HO134 := n5_; have HB := n6_; have HS := n7_; clear n0_ n1_ n2_ n3_ n4_ n5_ n6_ n7_ hb hk hkp ho152) | ((with_reducible refine gate_callee (f := 21) rfl ?_); refine gate_guard (by first | rfl | kernel_rfl) ?_; refine gL (some 75) Tryd.func21 #[.slice Ao92 t79.length co93, .slice Ao50 t37.length co51] ?_; (with_reducible refine (laws_eqIntS.calls k _ _ _ _ _ _ _ _ ?s_157 ?s_158 ?s_159 ?s_160 A_155.out ⟨rfl⟩).mono ?_); (case s_157 => exact (rcI HO94).1); (case s_158 => exact (rcR HO94).2); (case s_159 => exact (rcI HO52).1); (case s_160 => exact (rcR HO52).2); rintro e w' ⟨rfl, ⟨nd, rfl⟩⟩; refine ⟨_, rfl, ?_⟩) | ((with_reducible refine gate_callee (f := 24) rfl ?_); refine gL (some 85) Tryd.func24 #[.slice Ao92 t79.length co93, .int .i64 1] ?_; (with_reducible refine (laws_markIntS.calls k (fun k_ => lo89 ≤ k_ ∧ k_ < hi90) _ _ _ _ _ w _ (eI HB) (rI HO94) A_163.out).mono ?_); rintro e w_164 ⟨rfl, ho165, hb, hk⟩; refine ⟨_, rfl, ?_⟩; have hkp := keptRng (lo := lo89) (hi := hi90) hk (fun k_ h_ => by first | exact h_ | exact h_.elim id id); have n0_ := Aside0.mk (ksI hkp HO23 (by have h0_ := HE20.out; have h1_ := HE33.out; have h2_ := HE49.out; have h3_ := HE62.out; have h4_ := HE75.out; have h5_ := HE91.out; have h6_ := HE111.out; have h7_ := HE131.out; omega)); have n1_ := Aside0.mk (krI hkp HO36 (by have h0_ := HE20.out; have h1_ := HE33.out; have h2_ := HE49.out; have h3_ := HE62.out; have h4_ := HE75.out; have h5_ := HE91.out; have h6_ := HE111.out; have h7_ := HE131.out; omega)); have n2_ := Aside0.mk (krI hkp HO52 (by have h0_ := HE20.out; have h1_ := HE33.out; have h2_ := HE49.out; have h3_ := HE62.out; have h4_ := HE75.out; have h5_ := HE91.out; have h6_ := HE111.out; have h7_ := HE131.out; omega)); have n3_ := Aside0.mk (ksI hkp HO114 (by have h0_ := HE20.out; have h1_ := HE33.out; have h2_ := HE49.out; have h3_ := HE62.out; have h4_ := HE75.out; have h5_ := HE91.out; have h6_ := HE111.out; have h7_ := HE131.out; omega)); have n4_ := Aside0.mk (krI hkp HO134 (by have h0_ := HE20.out; have h1_ := HE33.out; have h2_ := HE49.out; have h3_ := HE62.out; have h4_ := HE75.out; have h5_ := HE91.out; have h6_ := HE111.out; have h7_ := HE131.out; omega)); have n5_ := Aside0.mk (Kd.R_mono (ok' := fun _ => True) ho165 (fun _ _ => trivial)); have n6_ := Aside0.mk (hb); have n7_ := Aside0.mk (leK hk HS); clear HO23 HO36 HO52 HO114 HO134 HO94 HB HS; have HO23 := n0_; have HO36 := n1_; have HO52 := n2_; have HO114 := n3_; have HO134 := n4_; have HO94 := n5_; have HB := n6_; have HS := n7_; clear n0_ n1_ n2_ n3_ n4_ n5_ n6_ n7_ hb hk hkp ho165) | ((with_reducible refine gate_callee (f := 25) rfl ?_); refine gL (some 88) Tryd.func25 #[.slice Ao92 t79.length co93, .int .i64 1] ?_; refine calls_of_args (args' := #[.slice Ao92 t162.length co93, .int .i64 1]) (by rw [← rlI HO94]) ?_; (with_reducible refine (laws_heldIntS.calls k _ _ _ _ _ _ ?s_170 ?s_171 A_168.out).mono ?_); (case s_170 => exact (rcI HO94).1); (case s_171 => exact (rcR HO94).2); rintro e w' ⟨rfl, ⟨nd, rfl⟩⟩; refine ⟨_, rfl, ?_⟩) | ((with_reducible refine gate_callee (f := 11) rfl ?_); refine gL (some 96) Tryd.func11 #[.slice A0 l0.length c0] ?_; (with_reducible refine (laws_toFieldS.calls k _ _ _ _ _ ?s_175 ?s_176 A_173.out).mono ?_); (case s_175 => exact Kd.C_below HR0.out (eI HB)); (case s_176 => exact HC0.out); rintro e w_174 ⟨v178, rfl, ho177, hb⟩; refine ⟨_, rfl, ?_⟩; obtain ⟨lo179, hi180, hle_, hsz_, hin_⟩ := newRng HB HS hb; have ho_0 := Aside0.mk (hin_.s ho177); have n0_ := Aside0.mk (sbI hb HO23); have n1_ := Aside0.mk (rbI hb HO36); have n2_ := Aside0.mk (rbI hb HO52); have n3_ := Aside0.mk (rbI hb HO94); have n4_ := Aside0.mk (sbI hb HO114); have n5_ := Aside0.mk (rbI hb HO134); have n6_ := Aside0.mk (sI hb HB); have n7_ := Aside0.mk (hsz_); clear HO23 HO36 HO52 HO94 HO114 HO134 HB HS; have HO23 := n0_; have HO36 := n1_; have HO52 := n2_; have HO94 := n3_; have HO114 := n4_; have HO134 := n5_; have HB := n6_; have HS := n7_; clear n0_ n1_ n2_ n3_ n4_ n5_ n6_ n7_ hb; have HE181 := Aside0.mk hle_; clear hle_ hsz_ hin_ ho177; have HO184 := ho_0; clear ho_0; obtain ⟨Ao182, co183, e_⟩ := Kd.R_slice (Kd.S_R HO184.out); subst e_) | ((with_reducible refine gate_callee (f := 16) rfl ?_); refine gL (some 98) Tryd.func16 #[.slice A1 l1.length c1] ?_; (with_reducible refine (laws_toAnswerS.calls k _ _ _ _ _ ?s_188 ?s_189 A_186.out).mono ?_); (case s_188 => exact Kd.C_below HR1.out (eI HB)); (case s_189 => exact HC1.out); rintro e w_187 ⟨v191, rfl, ho190, hb⟩; refine ⟨_, rfl, ?_⟩; obtain ⟨lo192, hi193, hle_, hsz_, hin_⟩ := newRng HB HS hb; have ho_0 := Aside0.mk (hin_.r ho190); have n0_ := Aside0.mk (sbI hb HO23); have n1_ := Aside0.mk (rbI hb HO36); have n2_ := Aside0.mk (rbI hb HO52); have n3_ := Aside0.mk (rbI hb HO94); have n4_ := Aside0.mk (sbI hb HO114); have n5_ := Aside0.mk (rbI hb HO134); have n6_ := Aside0.mk (sbI hb HO184); have n7_ := Aside0.mk (sI hb HB); have n8_ := Aside0.mk (hsz_); clear HO23 HO36 HO52 HO94 HO114 HO134 HO184 HB HS; have HO23 := n0_; have HO36 := n1_; have HO52 := n2_; have HO94 := n3_; have HO114 := n4_; have HO134 := n5_; have HO184 := n6_; have HB := n7_; have HS := n8_; clear n0_ n1_ n2_ n3_ n4_ n5_ n6_ n7_ n8_ hb; have HE194 := Aside0.mk hle_; clear hle_ hsz_ hin_ ho190; have HO197 := ho_0; clear ho_0; obtain ⟨Ao195, co196, e_⟩ := Kd.R_slice (HO197.out); subst e_) | ((with_reducible refine gate_callee (f := 20) rfl ?_); refine gL (some 99) Tryd.func20 #[.slice Ao182 t172.length co183, .slice Ao195 t185.length co196] ?_; (with_reducible refine (impl_CheckAnswers.calls k _ _ _ _ _ _ _ _ _ ?s_202 ?s_203 ?s_204 ?s_205 (GE.below HG.out (eI HB)) A_200.out).mono ?_); (case s_202 => exact (scI HO184).1); (case s_203 => exact (scR HO184).2); (case s_204 => exact (rcI HO197).1); (case s_205 => exact (rcR HO197).2); rintro e w_201 ⟨v207, rfl, ho206, hb⟩; refine ⟨_, rfl, ?_⟩; obtain ⟨lo208, hi209, hle_, hsz_, hin_⟩ := newRng HB HS hb; have ho_0 := Aside0.mk (hin_.r ho206); have n0_ := Aside0.mk (sbI hb HO23); have n1_ := Aside0.mk (rbI hb HO36); have n2_ := Aside0.mk (rbI hb HO52); have n3_ := Aside0.mk (rbI hb HO94); have n4_ := Aside0.mk (sbI hb HO114); have n5_ := Aside0.mk (rbI hb HO134); have n6_ := Aside0.mk (sbI hb HO184); have n7_ := Aside0.mk (rbI hb HO197); have n8_ := Aside0.mk (sI hb HB); have n9_ := Aside0.mk (hsz_); clear HO23 HO36 HO52 HO94 HO114 HO134 HO184 HO197 HB HS; have HO23 := n0_; have HO36 := n1_; have HO52 := n2_; have HO94 := n3_; have HO114 := n4_; have HO134 := n5_; have HO184 := n6_; have HO197 := n7_; have HB := n8_; have HS := n9_; clear n0_ n1_ n2_ n3_ n4_ n5_ n6_ n7_ n8_ n9_ hb; have HE210 := Aside0.mk hle_; clear hle_ hsz_ hin_ ho206; have HO213 := ho_0; clear ho_0; obtain ⟨Ao211, co212, e_⟩ := Kd.R_slice (HO213.out); subst e_) | ((with_reducible refine gate_callee (f := 21) rfl ?_); refine gL (some 104) Tryd.func21 #[.slice Ao211 t198.length co212, .slice Ao50 t37.length co51] ?_; (with_reducible refine (laws_eqIntS.calls k _ _ _ _ _ _ _ _ ?s_217 ?s_218 ?s_219 ?s_220 A_215.out ⟨rfl⟩).mono ?_); (case s_217 => exact (rcI HO213).1); (case s_218 => exact (rcR HO213).2); (case s_219 => exact (rcI HO52).1); (case s_220 => exact (rcR HO52).2); rintro e w' ⟨rfl, ⟨nd, rfl⟩⟩; refine ⟨_, rfl, ?_⟩) | ((with_reducible refine gate_callee (f := 25) rfl ?_); refine gL (some 113) Tryd.func25 #[.slice Ao92 t79.length co93, .int .i64 1] ?_; refine calls_of_args (args' := #[.slice Ao92 t162.length co93, .int .i64 1]) (by rw [← rlI HO94]) ?_; (with_reducible refine (laws_heldIntS.calls k _ _ _ _ _ _ ?s_224 ?s_225 A_222.out).mono ?_); (case s_224 => exact (rcI HO94).1); (case s_225 => exact (rcR HO94).2); rintro e w' ⟨rfl, ⟨nd, rfl⟩⟩; refine ⟨_, rfl, ?_⟩))
 go_ret
 exact ⟨rfl, eI HB⟩
end Go.Proofs.YtdogpphfofimeaaDoor.X
set_option linter.unusedVariables false
set_option linter.unusedSimpArgs false
namespace Go.Proofs.YtdogpphfofimeaaDoor.Open
open Go.RowKit Go.Proofs.YtdogpphfofimeaaDoorW.PrintWords

/-- What reads at type t is of kind d, and good. -/
def Opens (P : Program) (t : TypeId) {α : Type} (d : Kd α) (good : α → Prop) : Prop :=
  ∀ (H : Type) (enc : TypeId × Value → H) (w : World) (fuel : Nat) (cs : List Value) (x : DataW H × List MemPlace),
    DataW.trod enc P w 0 (fun _ => true) true fuel t cs = some x → ∃ a, d.K w a cs ∧ good a

theorem opens_int {P : Program} {t : TypeId} {k : IntKind} (ht : P.underlying t = some (.int k)) : Opens P t (Kd.int k) (fun n => (Lit.int k n).wf = true) := by
  intro H enc w fuel cs x hx
  obtain ⟨n, rfl, _, hw⟩ := DataW.trod_int ht hx
  exact ⟨n, rfl, hw⟩
theorem opens_bool {P : Program} {t : TypeId} (ht : P.underlying t = some .bool) : Opens P t Kd.bool (fun _ => True) := by
  intro H enc w fuel cs x hx
  obtain ⟨n, rfl, _⟩ := DataW.trod_bool ht hx
  exact ⟨n, rfl, trivial⟩
theorem opens_string {P : Program} {t : TypeId} (ht : P.underlying t = some .string) : Opens P t Kd.string (fun s => s.size ≤ 9223372036854775807) := by
  intro H enc w fuel cs x hx
  obtain ⟨n, rfl, _, hw⟩ := DataW.trod_string ht hx
  exact ⟨n, rfl, by simpa [maxLen] using hw⟩

theorem cells_each {w : World} {a : Addr} {n : Nat} {cs : List Value} (h : w.cells? 0 a n = some cs) : cs.length = n ∧ ∀ i u, cs[i]? = some u → w.cell? (a.add i) = some u := by
  have h1 := World.cells?_some h
  refine ⟨h1.2.1, fun i u hu => ?_⟩
  have hi : i < n := by
    have := (List.getElem?_eq_some_iff.1 hu).1
    omega
  rw [h1.2.2 i hi, hu]

theorem opens_slice {P : Program} {t e : TypeId} {α : Type} {d : Kd α} {g : α → Prop} (ht : P.underlying t = some (.slice e)) (hsz : P.cellsOf e = d.sz) (h : Opens P e d g) :
    Opens P t (Kd.slice e d) (fun xs => xs.length ≤ 9223372036854775807 ∧ ∀ x ∈ xs, g x) := by
  intro H enc w fuel cs x hx
  rcases DataW.trod_slice ht hx with ⟨rfl, _⟩ | ⟨a, len, cap, elems, rest, n, rfl, rfl, _, _, hlc, hcap, hel, hget, _, _⟩
  · exact ⟨[], ⟨none, 0, rfl, Nat.le_refl _, Kd.C_nil d w⟩, by simp, by simp⟩
  · simp only [maxLen] at hcap
    have each : ∀ i, i < len → ∃ b : α, ∃ c : List Value, c.length = d.sz ∧ d.K w b c ∧ g b ∧ ∀ j u, c[j]? = some u → w.cell? (a.add (i * d.sz + j)) = some u := by
      intro i hi
      have h1 := hget i hi
      obtain ⟨y, hy⟩ : ∃ y, elems[i]? = some y := ⟨_, List.getElem?_eq_getElem (by omega)⟩
      rw [hy] at h1
      obtain ⟨c, hc, ht'⟩ := Option.bind_eq_some_iff.1 h1
      obtain ⟨b, hK, hg⟩ := h H enc w n c y ht'
      obtain ⟨hl, hcell⟩ := cells_each hc
      refine ⟨b, c, hl.trans hsz, hK, hg, fun j u hu => ?_⟩
      have := hcell j u hu
      rw [Deep.add_add, hsz] at this
      exact this
    have mk : ∀ m, m ≤ len → ∃ xs : List α, xs.length = m ∧ (∀ x ∈ xs, g x) ∧ ∀ j p, xs[j]? = some p → ∃ c, c.length = d.sz ∧ d.K w p c ∧ ∀ i u, c[i]? = some u → w.cell? (a.add (j * d.sz + i)) = some u := by
      intro m
      induction m with
      | zero => exact fun _ => ⟨[], rfl, by simp, by simp⟩
      | succ m ih =>
        intro hm
        obtain ⟨xs, hl, hg, hx⟩ := ih (by omega)
        obtain ⟨b, c, hc1, hc2, hc3, hc4⟩ := each m (by omega)
        refine ⟨xs ++ [b], by simp [hl], ?_, ?_⟩
        · intro x hx'
          rcases List.mem_append.1 hx' with hx' | hx'
          · exact hg x hx'
          · rw [List.mem_singleton.1 hx']; exact hc3
        · intro j p hj
          by_cases hjm : j < m
          · rw [List.getElem?_append_left (by omega)] at hj
            exact hx j p hj
          · have hlt := (List.getElem?_eq_some_iff.1 hj).1
            simp only [List.length_append, List.length_cons, List.length_nil] at hlt
            obtain rfl : j = m := by omega
            rw [List.getElem?_append_right (by omega), hl, Nat.sub_self] at hj
            simp only [List.getElem?_cons_zero, Option.some.injEq] at hj
            subst hj
            exact ⟨c, hc1, hc2, hc4⟩
    obtain ⟨ys, hl, hg, hy⟩ := mk len (Nat.le_refl _)
    subst hl
    exact ⟨ys, ⟨some a, cap, rfl, hlc, rfl, by omega, fun _ => ⟨a, rfl, hy⟩⟩, by omega, hg⟩

def offs (L : List (TypeId × Nat)) (i : Nat) : Nat := ((L.take i).map (·.2)).sum
def Sect (P : Program) (L : List (TypeId × Nat)) {α : Type} (d : Kd α) (good : α → Prop) : Prop :=
  ∀ (H : Type) (enc : TypeId × Value → H) (w : World) (n : Nat) (cs : List Value), cs.length = (L.map (·.2)).sum →
    (∀ i p, L[i]? = some p → ∃ y, DataW.trod enc P w 0 (fun _ => true) true n p.1 ((cs.drop (offs L i)).take p.2) = some y) → ∃ a, d.K w a cs ∧ good a
theorem sect_one {P : Program} {t : TypeId} {s : Nat} {α : Type} {d : Kd α} {g : α → Prop} (h : Opens P t d g) : Sect P [(t, s)] d g := by
  intro H enc w n cs hl hf
  obtain ⟨y, hy⟩ := hf 0 _ rfl
  simp only [offs, List.take_zero, List.map_nil, List.sum_nil, List.drop_zero] at hy
  rw [List.take_of_length_le (by simp at hl; omega)] at hy
  exact h H enc w n cs y hy
theorem sect_cons {P : Program} {t : TypeId} {s : Nat} {L : List (TypeId × Nat)} {α β : Type} {d : Kd α} {d' : Kd β} {g : α → Prop} {g' : β → Prop} (h : Opens P t d g) (h' : Sect P L d' g') :
    Sect P ((t, s) :: L) (Kd.pair d d') (fun x => g x.1 ∧ g' x.2) := by
  intro H enc w n cs hl hf
  obtain ⟨y, hy⟩ := hf 0 _ rfl
  simp only [offs, List.take_zero, List.map_nil, List.sum_nil, List.drop_zero] at hy
  obtain ⟨a, ha, hga⟩ := h H enc w n _ y hy
  obtain ⟨b, hb, hgb⟩ := h' H enc w n (cs.drop s) (by simp only [List.map_cons, List.sum_cons] at hl; rw [List.length_drop, hl]; omega) (by
    intro i p hp
    obtain ⟨z, hz⟩ := hf (i + 1) p (by simpa using hp)
    refine ⟨z, ?_⟩
    simp only [offs, List.take_succ_cons, List.map_cons, List.sum_cons] at hz
    rw [List.drop_drop]
    exact hz)
  exact ⟨(a, b), ⟨cs.take s, cs.drop s, (List.take_append_drop s cs).symm, ha, hb⟩, hga, hgb⟩
theorem opens_struct {P : Program} {t : TypeId} {fs : Array Field} {α β : Type} {d : Kd α} {g : α → Prop} (f : β → α) (k : α → β) (hk : ∀ x, f (k x) = x) (L : List (TypeId × Nat))
    (ht : P.underlying t = some (.struct fs)) (hL : L = fs.toList.map (fun f => (f.type, P.cellsOf f.type))) (ho : fs.toList.map (·.offset) = (List.range L.length).map (offs L)) (hc : P.cellsOf t = (L.map (·.2)).sum)
    (h : Sect P L d g) : Opens P t (Kd.iso d f) (fun x => g (f x)) := by
  intro H enc w fuel cs x hx
  obtain ⟨xs, n, rfl, rfl, hl, hxl, hf⟩ := DataW.trod_struct ht hx
  obtain ⟨a, ha, hg⟩ := h H enc w n cs (hl.trans hc) (by
    intro i p hp
    have hi : i < fs.size := by
      have := (List.getElem?_eq_some_iff.1 hp).1
      rw [hL] at this
      simpa using this
    have hfi : fs[i]? = some fs[i] := Array.getElem?_eq_getElem hi
    have h1 := hf i fs[i] hfi
    obtain ⟨y, hy⟩ : ∃ y, xs[i]? = some y := ⟨_, List.getElem?_eq_getElem (by omega)⟩
    rw [hy] at h1
    refine ⟨y, ?_⟩
    have hp' : p = (fs[i].type, P.cellsOf fs[i].type) := by
      rw [hL] at hp
      simp only [List.getElem?_map, Array.getElem?_toList, hfi, Option.map_some, Option.some.injEq] at hp
      exact hp.symm
    have hoi : fs[i].offset = offs L i := by
      have h2 : (fs.toList.map (·.offset))[i]? = ((List.range L.length).map (offs L))[i]? := by rw [ho]
      have hLl : L.length = fs.size := by rw [hL]; simp
      simp only [List.getElem?_map, Array.getElem?_toList, hfi, Option.map_some, List.getElem?_range (show i < L.length by omega)] at h2
      exact Option.some.inj h2
    rw [hp', ← hoi]
    exact h1)
  refine ⟨k a, ?_, ?_⟩
  · show d.K w (f (k a)) cs
    rw [hk]; exact ha
  · show g (f (k a))
    rw [hk]; exact hg

theorem arg_slice {P : Program} {W : World} {H : Type} {enc : TypeId × Value → H} {t e : TypeId} {α : Type} {d : Kd α} {g : List α → Prop} {v : Value} {x : DataW H} {p : List MemPlace} (h : Opens P t (Kd.slice e d) g)
    (hs : ∃ a len cap, v = .slice a len cap) (hv : DataW.Trod enc P W 0 (fun _ => true) true t v x p) : ∃ A c xs, v = .slice A xs.length c ∧ xs.length ≤ c ∧ Kd.C d W A xs.length xs ∧ g xs := by
  obtain ⟨a, len, cap, rfl⟩ := hs
  obtain ⟨fuel, hf⟩ := hv
  obtain ⟨xs, ⟨A, c, he, hl, hc⟩, hg⟩ := h H enc W fuel _ _ hf
  simp [Value.cells] at he
  obtain ⟨rfl, rfl, rfl⟩ := he
  exact ⟨_, _, xs, rfl, hl, hc, hg⟩
end Go.Proofs.YtdogpphfofimeaaDoor.Open
set_option linter.unusedVariables false
namespace Go.Proofs.YtdogpphfofimeaaDoor.X
open Go.RowKit Go.Proofs.YtdogpphfofimeaaDoorW.PrintWords Go.Proofs.YtdogpphfofimeaaDoor.Open
theorem op9 : Opens Tryd.prog 9 Kd.string (fun s => s.size ≤ 9223372036854775807) := opens_string Tryd.underlying9
theorem op3 : Opens Tryd.prog 3 (Kd.int .i64) (fun n => (Lit.int .i64 n).wf = true) := opens_int Tryd.underlying3
theorem op51 : Opens Tryd.prog 51 (Kd.slice 9 Kd.string) (fun xs => (xs.length ≤ 9223372036854775807 ∧ ∀ y ∈ xs, y.size ≤ 9223372036854775807)) := opens_slice Tryd.underlying51 (by kernel_rfl) op9
theorem op4 : Opens Tryd.prog 4 Kd.bool (fun _ => True) := opens_bool Tryd.underlying4
def good68 (x : S68) : Prop := x.f0.size ≤ 9223372036854775807 ∧ (Lit.int .i64 x.f1).wf = true ∧ (Lit.int .i64 x.f2).wf = true ∧ (Lit.int .i64 x.f3).wf = true ∧ (x.f4.length ≤ 9223372036854775807 ∧ ∀ y ∈ x.f4, y.size ≤ 9223372036854775807) ∧ True ∧ x.f6.size ≤ 9223372036854775807
theorem op68 : Opens Tryd.prog 68 k68 good68 :=
  opens_struct (fun x : S68 => (x.f0, x.f1, x.f2, x.f3, x.f4, x.f5, x.f6)) (fun p => ⟨p.1, p.2.1, p.2.2.1, p.2.2.2.1, p.2.2.2.2.1, p.2.2.2.2.2.1, p.2.2.2.2.2.2⟩) (fun _ => rfl) [(9, 1), (3, 1), (3, 1), (3, 1), (51, 1), (4, 1), (9, 1)] Tryd.underlying68 (by kernel_rfl) (by decide) (by kernel_rfl) (sect_cons op9 (sect_cons op3 (sect_cons op3 (sect_cons op3 (sect_cons op51 (sect_cons op4 (sect_one op9)))))))
theorem op22 : Opens Tryd.prog 22 (Kd.slice 68 k68) (fun xs => (xs.length ≤ 9223372036854775807 ∧ ∀ y ∈ xs, good68 y)) := opens_slice Tryd.underlying22 (by kernel_rfl) op68
def good76 (x : S76) : Prop := x.f0.size ≤ 9223372036854775807 ∧ x.f1.size ≤ 9223372036854775807
theorem op76 : Opens Tryd.prog 76 k76 good76 :=
  opens_struct (fun x : S76 => (x.f0, x.f1)) (fun p => ⟨p.1, p.2⟩) (fun _ => rfl) [(9, 1), (9, 1)] Tryd.underlying76 (by kernel_rfl) (by decide) (by kernel_rfl) (sect_cons op9 (sect_one op9))
theorem op30 : Opens Tryd.prog 30 (Kd.slice 76 k76) (fun xs => (xs.length ≤ 9223372036854775807 ∧ ∀ y ∈ xs, good76 y)) := opens_slice Tryd.underlying30 (by kernel_rfl) op76
end Go.Proofs.YtdogpphfofimeaaDoor.X
namespace Go.Proofs.YtdogpphfofimeaaDoor.X
open Go.RowKit Go.Proofs.YtdogpphfofimeaaDoorW.PrintWords
def PureFnExactCheckAnswers : Prop := ∀ (a0 : List (S68)) (a1 : List (S76)), (a0.length ≤ 9223372036854775807 ∧ ∀ y ∈ a0, good68 y) → (a1.length ≤ 9223372036854775807 ∧ ∀ y ∈ a1, good76 y) → ∃ k, laws_FnExactCheckAnswers.f k a0 a1 = some true
end Go.Proofs.YtdogpphfofimeaaDoor.X
set_option linter.unusedVariables false
set_option linter.unusedSimpArgs false
namespace Go.Proofs.YtdogpphfofimeaaDoor.X
open Go.RowKit Go.Proofs.YtdogpphfofimeaaDoorW.PrintWords Go.Proofs.YtdogpphfofimeaaDoor.E
theorem l1In_eq (a l h : Int) : spec_l1In.f a l h = some (decide (l ≤ a ∧ a ≤ h)) := by
  unfold spec_l1In.f
  by_cases h1 : a ≥ l
  · rw [if_pos h1]; congr 1; simp [h1]
  · rw [if_neg h1]; congr 1; symm; simp; intro h2; omega
theorem within_eq (a l h : Int) : impl_within.f a l h = some (decide (l ≤ a ∧ a ≤ h)) := by
  unfold impl_within.f
  by_cases h1 : a ≥ l
  · rw [if_pos h1]; congr 1; simp [h1]
  · rw [if_neg h1]; congr 1; symm; simp; intro h2; omega
def nameAt (s : ByteArray) (i : Nat) : Bool := decide (97 ≤ bt s i ∧ bt s i ≤ 122) || (decide (0 < i) && decide (48 ≤ bt s i ∧ bt s i ≤ 57))
def nameB (s : ByteArray) : Bool := decide (1 ≤ (s.size : Int) ∧ (s.size : Int) ≤ 8) && (List.range s.size).all (nameAt s)
theorem isName_ev (s : ByteArray) (hs : s.size ≤ 9223372036854775807) : Ev (fun k => impl_isName.f k s) (nameB s) := by
  have h := ev_all0 (L := fun k i => impl_isName.l0 k s (s.size : Int) i) s.size (nameAt s) false (decide (1 ≤ (s.size : Int) ∧ (s.size : Int) ≤ 8)) (fun _ => Ev.step (fun k => rfl) (ev_neg (by omega) ?_)) ?h1 ?h2
  case refine_1 => simp only [within_eq]; exact ev_now rfl
  case h1 =>
    intro i hi _ hc y hy
    simp only [nameAt, Bool.or_eq_true, Bool.and_eq_true, decide_eq_true_eq] at hc
    refine Ev.step (fun k => rfl) (ev_pos (by omega) (ev_pos (by omega) (ev_pos (by omega) ?_)))
    rw [wrap_succ hi hs]
    repeat' (first | exact hy | (exfalso; omega) | (refine ev_ite (fun _ => ?_) (fun _ => ?_)))
  case h2 =>
    intro i hi _ hc
    simp only [nameAt, Bool.or_eq_false_iff, Bool.and_eq_false_iff, decide_eq_false_iff_not] at hc
    refine Ev.step (fun k => rfl) (ev_pos (by omega) (ev_pos (by omega) (ev_pos (by omega) ?_)))
    rw [wrap_succ hi hs]
    repeat' (first | exact ev_now rfl | (exfalso; omega) | (refine ev_ite (fun _ => ?_) (fun _ => ?_)))
  refine ev_cast h ?_
  unfold nameB
  cases (List.range s.size).all (nameAt s) <;> simp
theorem l7Name_ev (s : ByteArray) (hs : s.size ≤ 9223372036854775807) : Ev (fun k => spec_l7Name.f k s) (nameB s) := by
  unfold spec_l7Name.f
  simp only [l1In_eq]
  have stop : ∀ b, b = false → Ev (fun k => spec_l7Name.j0 k s true) b := fun b hb => hb ▸ Ev.step (fun k => rfl) (ev_now rfl)
  refine ev_ite (fun h1 => ?_) (fun h1 => stop _ ?_)
  case refine_2 => unfold nameB; simp only [Bool.and_eq_false_iff]; left; simpa using h1
  have h1' : 1 ≤ (s.size : Int) ∧ (s.size : Int) ≤ 8 := by simpa using h1
  have h0 : ∀ b : Bool, (97 ≤ bt s 0 ∧ bt s 0 ≤ 122 → b = (List.range s.size).all (nameAt s)) → (¬ (97 ≤ bt s 0 ∧ bt s 0 ≤ 122) → b = false) → b = nameB s := by
    intro b hy hn
    unfold nameB
    rw [decide_eq_true h1', Bool.true_and]
    by_cases c : 97 ≤ bt s 0 ∧ bt s 0 ≤ 122
    · exact hy c
    · rw [hn c]
      symm
      rw [Bool.eq_false_iff]
      intro hall
      have := all_range.1 hall 0 (by omega)
      simp only [nameAt, Nat.lt_irrefl, decide_false, Bool.false_and, Bool.or_false, decide_eq_true_eq] at this
      exact c this
  refine ev_pos (by omega) ?_
  have loop : 97 ≤ bt s 0 ∧ bt s 0 ≤ 122 → Ev (fun k => spec_l7Name.l0 k s 0) ((List.range s.size).all (nameAt s)) := by
    intro hf
    have h := ev_all0 (L := fun k i => spec_l7Name.l0 k s i) s.size (nameAt s) false true (fun _ => Ev.step (fun k => rfl) (ev_neg (by omega) (ev_now rfl))) ?h1 ?h2
    case h1 =>
      intro i hi _ hc y hy
      simp only [nameAt, Bool.or_eq_true, Bool.and_eq_true, decide_eq_true_eq] at hc
      refine Ev.step (fun k => rfl) (ev_pos (by omega) (ev_pos (by omega) ?_))
      rw [wrap_succ hi hs]
      repeat' (first | exact hy | (exfalso; omega) | (refine ev_ite (fun _ => ?_) (fun _ => ?_)))
    case h2 =>
      intro i hi _ hc
      simp only [nameAt, Bool.or_eq_false_iff, Bool.and_eq_false_iff, decide_eq_false_iff_not] at hc
      have hi0 : 0 < i := by
        rcases Nat.eq_zero_or_pos i with e | e
        · subst e; exact absurd hf hc.1
        · exact e
      refine Ev.step (fun k => rfl) (ev_pos (by omega) (ev_pos (by omega) ?_))
      rw [wrap_succ hi hs]
      repeat' (first | exact ev_now rfl | (exfalso; omega) | (refine ev_ite (fun _ => ?_) (fun _ => ?_)))
    refine ev_cast h ?_
    cases (List.range s.size).all (nameAt s) <;> rfl
  refine ev_ite (fun c => stop _ (h0 false (fun h => by exfalso; omega) (fun _ => rfl)).symm) (fun c => ?_)
  by_cases c2 : bt s 0 > 122
  · rw [decide_eq_true c2]
    exact stop _ (h0 false (fun h => by exfalso; omega) (fun _ => rfl)).symm
  · rw [decide_eq_false c2]
    exact Ev.step (fun k => rfl) (ev_cast (loop ⟨by omega, by omega⟩) (h0 _ (fun _ => rfl) (fun h => absurd (And.intro (show 97 ≤ bt s 0 by omega) (show bt s 0 ≤ 122 by omega)) h)))
def textAt (s : ByteArray) (i : Nat) : Bool := decide (32 ≤ bt s i ∧ bt s i ≤ 126)
def textB (s : ByteArray) : Bool := (List.range s.size).all (textAt s) && decide ((s.size : Int) ≤ 40)
theorem isText_ev (s : ByteArray) (hs : s.size ≤ 9223372036854775807) : Ev (fun k => impl_isText.f k s) (textB s) := by
  have h := ev_all0 (L := fun k i => impl_isText.l0 k s (s.size : Int) i) s.size (textAt s) false (decide ((s.size : Int) ≤ 40)) (fun _ => Ev.step (fun k => rfl) (ev_neg (by omega) (ev_now rfl))) ?h1 ?h2
  case h1 =>
    intro i hi _ hc y hy
    simp only [textAt, decide_eq_true_eq] at hc
    refine Ev.step (fun k => rfl) (ev_pos (by omega) (ev_pos (by omega) (ev_pos (by omega) ?_)))
    rw [wrap_succ hi hs]
    exact ev_neg (by omega) (ev_neg (by omega) hy)
  case h2 =>
    intro i hi _ hc
    simp only [textAt, decide_eq_false_iff_not] at hc
    refine Ev.step (fun k => rfl) (ev_pos (by omega) (ev_pos (by omega) (ev_pos (by omega) ?_)))
    refine ev_ite (fun _ => ev_now rfl) (fun _ => ev_ite (fun _ => ev_now rfl) (fun _ => ?_))
    exfalso; omega
  refine ev_cast h ?_
  unfold textB
  cases (List.range s.size).all (textAt s) <;> simp
theorem l21Text_ev (s : ByteArray) (hs : s.size ≤ 9223372036854775807) : Ev (fun k => spec_l21Text.f k s) (textB s) := by
  -- within the first forty bytes as the program; a longer one is refused at the forty-second step or before
  have h := ev_all0 (L := fun k i => spec_l21Text.l0 k s i) (min s.size 41) (textAt s) false (decide ((s.size : Int) ≤ 40)) ?h0 ?h1 ?h2
  case h0 =>
    intro _
    by_cases c : s.size ≤ 40
    · rw [Nat.min_eq_left (by omega)]
      exact Ev.step (fun k => rfl) (ev_neg (by omega) (Ev.step (fun k => rfl) (ev_now rfl)))
    · rw [Nat.min_eq_right (by omega)]
      refine Ev.step (fun k => rfl) ?_
      show Ev (fun k => if ((41 : Nat) : Int) < (s.size : Int) then spec_l21Text.j1 k s ((41 : Nat) : Int) (decide (((41 : Nat) : Int) ≤ 40)) else spec_l21Text.j1 k s ((41 : Nat) : Int) false) _
      rw [decide_eq_false (show ¬ (((41 : Nat) : Int) ≤ 40) by omega)]
      exact ev_ite (fun _ => Ev.step (fun k => rfl) (ev_now rfl)) (fun _ => Ev.step (fun k => rfl) (ev_now rfl))
  case h1 =>
    intro i hi _ hc y hy
    simp only [textAt, decide_eq_true_eq] at hc
    have hi' : i < s.size := by omega
    refine Ev.step (fun k => rfl) (ev_pos (by omega) ?_)
    rw [decide_eq_true (show (i : Int) ≤ 40 by omega)]
    refine Ev.step (fun k => rfl) ?_
    show Ev (fun k => if 0 ≤ (i : Int) then (if (i : Int) < (s.size : Int) then (if (bt s i) < 32 then (some false) else (if (bt s i) > 126 then (some false) else (spec_l21Text.l0 k s (wrap64 ((i : Int) + 1))))) else none) else none) y
    rw [wrap_succ hi' hs]
    exact ev_pos (by omega) (ev_pos (by omega) (ev_neg (by omega) (ev_neg (by omega) hy)))
  case h2 =>
    intro i hi _ hc
    simp only [textAt, decide_eq_false_iff_not] at hc
    have hi' : i < s.size := by omega
    refine Ev.step (fun k => rfl) (ev_pos (by omega) ?_)
    rw [decide_eq_true (show (i : Int) ≤ 40 by omega)]
    refine Ev.step (fun k => rfl) ?_
    show Ev (fun k => if 0 ≤ (i : Int) then (if (i : Int) < (s.size : Int) then (if (bt s i) < 32 then (some false) else (if (bt s i) > 126 then (some false) else (spec_l21Text.l0 k s (wrap64 ((i : Int) + 1))))) else none) else none) _
    refine ev_pos (by omega) (ev_pos (by omega) (ev_ite (fun _ => ev_now rfl) (fun _ => ev_ite (fun _ => ev_now rfl) (fun _ => ?_))))
    exfalso; omega
  refine ev_cast h ?_
  unfold textB
  by_cases c : s.size ≤ 40
  · rw [Nat.min_eq_left (by omega)]
    cases (List.range s.size).all (textAt s) <;> simp
  · rw [decide_eq_false (show ¬ ((s.size : Int) ≤ 40) by omega)]
    simp
end Go.Proofs.YtdogpphfofimeaaDoor.X
