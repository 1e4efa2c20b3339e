/- For all forms and answers the law FnExactIsComplete answers true. No condition beyond what a reading tells.
This file (part 3 of 4) holds what the proof needs: plain functions with rounds and contracts written by programs of this work over the translation, and the lemmas. -/
import Derived.Test.YtdogpphfofimeaaDoorZFnExactIsComplete2
import Derived.Test.YtdogpphfofimeaaDoorZFnExactIsComplete1
import Derived.IntWalk
import Derived.Shelf.Abstract
import Derived.Shelf.Strings.Builder1
import Derived.Shelf.Strings.Builder2
import Derived.Shelf.Strings.OnBuilder
import Derived.Shelf.Strings.BuilderF
import Derived.Shelf.Utf8.RuneCount
import Derived.Shelf.Strconv.Atoi
import Derived.Shelf.Strconv.Itoa0
import Derived.Shelf.Strconv.Itoa1
import Derived.Shelf.LaysM
import Derived.Shelf.Strconv.Itoa2
import Derived.Shelf.Strconv.Itoa3
import Derived.Shelf.Strconv.AtoiErrFast
import Derived.Shelf.Strconv.ParseIntEmpty
import Derived.Shelf.Strconv.AtoiFail
import Derived.Shelf.Strconv.Clone
import Derived.Shelf.Strconv.SyntaxError
import Derived.Shelf.LaysC
import Derived.Shelf.Strconv.ToError
import Derived.Shelf.Strconv.AtoiErr
import Derived.Shelf.Strconv.Lower
import Derived.Shelf.Strconv.ParseUint10
import Derived.Shelf.Strconv.ParseUint10Empty
import Derived.Shelf.Strconv.ParseUint10Any
import Derived.Shelf.Strconv.ParseInt10
import Derived.Shelf.Strconv.AtoiLong
import Derived.Shelf.Strconv.AtoiInnerAll
import Derived.Shelf.Strconv.RangeError
import Derived.Shelf.Strconv.ToErrorRange
import Derived.Shelf.Strconv.AtoiAll
import Derived.Shelf.Strconv.ErrVarAll
import Derived.Shelf.Strings.Search1
import Derived.Shelf.Strings.Search2
import Derived.Shelf.Strings.Search3
import Derived.Shelf.Strings.Count
import Derived.Shelf.Strings.Shaped
import Derived.Shelf.Strings.Split
import Derived.Shelf.Strings.SplitShaped
import Derived.Shelf.Unicode.Decode
import Derived.Shelf.Strings.RuneCount
import Derived.Shelf.Strings.Explode
import Derived.Shelf.Unicode.DecodeSlow
import Derived.Shelf.Unicode.DecodeAny
import Derived.Shelf.Slices.Turned
import Derived.Test.YtdogpphfofimeaaDoorProg
import Derived.Lib.AppendIntMem
namespace Go.Proofs.YtdogpphfofimeaaDoor.X
open Go.RowKit Go.Proofs.YtdogpphfofimeaaDoorW.PrintWords Go.Proofs.YtdogpphfofimeaaDoorW.PrintLast Go.Proofs.YtdogpphfofimeaaDoorW.PrintMore
attribute [local go_sem] max2_int min2_int max_two min_two max_three min_three max_four min_four   -- for this text's walks alone
set_option linter.unusedVariables false
set_option linter.unusedSimpArgs false
attribute [-simp] ByteArray.size_append ByteArray.size_extract
attribute [-go_sem] ByteArray.size_append'

/-! ### spec_l23States: function 53 -/
mutual
def spec_l23States.l0 : Nat → List (S69) → List (S58) → List Bool → List Int → Int → Option (List Int)
 | 0, _, _, _, _, _ => none
 | k + 1, x0, x1, x5, x6, x7 => if x7 < (x0.length : Int) then (if 0 ≤ x7 then ((spec_l23Text.f k x1 ((rd_T69 x0 x7).f0)).bind fun bt108 => (if x7 < (x5.length : Int) then (if rdOf false x5 x7 = true then (spec_l23States.j1 k x0 x1 x5 x6 x7 bt108.1 bt108.2 false) else (spec_l23States.j1 k x0 x1 x5 x6 x7 bt108.1 bt108.2 bt108.2)) else (none))) else (none)) else (some x6)
def spec_l23States.j1 : Nat → List (S69) → List (S58) → List Bool → List Int → Int → ByteArray → Bool → Bool → Option (List Int)
 | 0, _, _, _, _, _, _, _, _ => none
 | k + 1, x0, x1, x5, x6, x7, x8, x9, x33 => if x33 = true then (if x6.length < 17592186044416 then (spec_l23States.l0 k x0 x1 x5 (x6 ++ [3]) (wrap64 (x7 + 1))) else (none)) else (if 0 ≤ x7 then (if x7 < (x5.length : Int) then (if rdOf false x5 x7 = true then (if x7 < (x0.length : Int) then (if (rd_T69 x0 x7).f5 = true then (spec_l23States.j2 k x0 x1 x5 x6 x7 x8 x9 (!x9)) else (spec_l23States.j2 k x0 x1 x5 x6 x7 x8 x9 false)) else (none)) else (spec_l23States.j2 k x0 x1 x5 x6 x7 x8 x9 false)) else (none)) else (none))
def spec_l23States.j2 : Nat → List (S69) → List (S58) → List Bool → List Int → Int → ByteArray → Bool → Bool → Option (List Int)
 | 0, _, _, _, _, _, _, _, _ => none
 | k + 1, x0, x1, x5, x6, x7, x8, x9, x45 => if x45 = true then (if x6.length < 17592186044416 then (spec_l23States.l0 k x0 x1 x5 (x6 ++ [1]) (wrap64 (x7 + 1))) else (none)) else (if 0 ≤ x7 then (if x7 < (x5.length : Int) then (if rdOf false x5 x7 = true then (if x9 = true then (if x7 < (x0.length : Int) then ((spec_l23Value.f k ((rd_T69 x0 x7).f0) ((rd_T69 x0 x7).f1) ((rd_T69 x0 x7).f2) ((rd_T69 x0 x7).f3) ((rd_T69 x0 x7).f4) ((rd_T69 x0 x7).f5) ((rd_T69 x0 x7).f6) x8).bind fun t121 => (if t121 = true then (if x6.length < 17592186044416 then (spec_l23States.l0 k x0 x1 x5 (x6 ++ [0]) (wrap64 (x7 + 1))) else (none)) else (if x6.length < 17592186044416 then (spec_l23States.l0 k x0 x1 x5 (x6 ++ [2]) (wrap64 (x7 + 1))) else (none)))) else (none)) else (if x6.length < 17592186044416 then (spec_l23States.l0 k x0 x1 x5 (x6 ++ [0]) (wrap64 (x7 + 1))) else (none))) else (if x6.length < 17592186044416 then (spec_l23States.l0 k x0 x1 x5 (x6 ++ [0]) (wrap64 (x7 + 1))) else (none))) else (none)) else (none))
end
def spec_l23States.f (k : Nat) (l0 : List (S69)) (l1 : List (S58)) : Option (List Int) := (spec_l23Visible.f k l0 l1).bind fun t101 => (spec_l23States.l0 k l0 l1 t101 (([] : List Int)) 0)
set_option maxHeartbeats 8000000 in
set_option maxRecDepth 100000 in
theorem spec_l23States.calls (k : Nat) (A0 : Option Addr) (c0 : Nat) (l0 : List (S69)) (A1 : Option Addr) (c1 : Nat) (l1 : List (S58)) (r : List Int) (w : World) (hr0 : Kd.C k69 w A0 l0.length l0) (hc0 : l0.length ≤ c0) (hr1 : Kd.C k58 w A1 l1.length l1) (hc1 : l1.length ≤ c1) (h : spec_l23States.f k l0 l1 = some r) :
  Calls Tryd.prog 53 #[.slice A0 l0.length c0, .slice A1 l1.length c1] w fun e w' => ∃ v0_ : Value, e = .returned (v0_) ∧ Kd.R (Kd.int .i64) 3 w' w.heap.size (fun _ => True) v0_ r ∧ Below w.heap.size w w' := by
 (have hu69 := Tryd.underlying69); (have HR0 := Aside0.mk hr0); (have HC0 := Aside0.mk hc0); clear hr0 hc0; (have HR1 := Aside0.mk hr1); (have HC1 := Aside0.mk hc1); clear hr1 hc1; (have HB := Aside0.mk (Below.refl w.heap.size w)); (unfold spec_l23States.f at h); (have H := h); clear h; (replace H := obS H); (obtain ⟨t101, A3, H⟩ := H); (obtain ⟨y104, hy104⟩ : ∃ y_ : List Int, y_ = (([] : List Int)) := ⟨_, rfl⟩); (replace H : (spec_l23States.l0 k l0 l1 t101 y104 0) = some r := by first | (rw [hy104]; with_reducible exact H) | (have H2_ := (Option.bind_some _ _).symm.trans H; rw [hy104]; with_reducible exact H2_) | (have H2_ := (Option.bind_some _ _).symm.trans H; with_reducible exact H2_) | with_reducible exact H | (rw [hy104]; exact H) | exact H); (have Ny104 := Aside0.mk hy104); clear hy104; (have H' := Aside0.mk H); clear H; (go_enter Tryd.func53, Tryd.ntmps53); (go_wp2_with (first | ((with_reducible refine gate_callee (f := 90) rfl ?_); refine gL (some 12) Tryd.func90 #[.slice A0 l0.length c0, .slice A1 l1.length c1] ?_; (with_reducible refine (spec_l23Visible.calls k _ _ l0 _ _ l1 t101 _ ?side1 ?side2 ?side3 ?side4 A3.out).mono ?_); (case side1 => exact cI HR0.out); (case side2 => exact HC0.out); (case side3 => exact cI HR1.out); (case side4 => exact HC1.out); rintro e w4 ⟨v102, rfl, ho0, hb⟩; refine ⟨_, rfl, ?_⟩; have n0_ := Aside0.mk (Kd.R_lower ho0 (below_size (eI HB))); have n1_ := Aside0.mk (sI hb HB); clear HB; have HO103 := n0_; have HB := n1_; clear n0_ n1_; (try clear hb); (try clear hb2); (try clear hk); (try clear hi); (try clear ho0)) | ((with_reducible refine gate_dst (N := 13) rfl ?_); refine Kd.R_lit (Kd.int .i64) _ 3 ?hg (N := 13) ?hd (xs := ([] : List Int)) (inner := []) (ok := fun _ => True) (okp := fun _ => True) ?hr ?hp (fun _ hk => hk) trivial (Below.refl _ _) (Nat.le_refl _) (by simp) ?_; (case hd => rfl); (case hg => rfl); (case hr => first | (go_simp; done) | (go_simp; rfl)); (case hp => exact (Reps.none _ _)); intro v105 w5 ho6 hb hg_ hnew_; clear hg_ hnew_; (first | rw [← Ny104.out] at ho6 | (simp only [Int.reduceToNat] at ho6; rw [← Ny104.out] at ho6)); have n0_ := Aside0.mk (rbI hb HO103); have hB_ := zI hb HB; have n1_ := Aside0.mk (Kd.R_lower ho6 (below_size hB_)); have n2_ := Aside0.mk (below_step hB_ hb); clear HO103 HB; have HO103 := n0_; have HO106 := n1_; have HB := n2_; clear n0_ n1_ n2_ hB_ hb ho6))); (go_loopg [6, 7] k (fun kq v6 v7 w' => ∃ (x6_1 : List Int) (x7_1 : Int), v7 = .int .i64 x7_1 ∧ Aside0 (spec_l23States.l0 kq l0 l1 t101 x6_1 x7_1 = some r) ∧ Aside0 (kq ≤ k) ∧ Aside0 (Kd.R Kd.bool 4 w' w.heap.size (fun _ => True) v102 t101) ∧ Aside0 (Kd.R (Kd.int .i64) 3 w' w.heap.size (fun _ => True) v6 x6_1) ∧ Aside0 (Below w.heap.size w w')))
 case atStart => exact ⟨(y104), (0), (by first | rfl | (simp; done) | (simp [*]; done)), H', ⟨Nat.le_refl _⟩, ⟨rI HO103⟩, ⟨rI HO106⟩, ⟨eI HB⟩⟩
 case round =>
  (clear H'); (try clear c1); (try clear p2); (try clear c5); (obtain ⟨x6_1, x7_1, rfl, HA, HK1, HO_5, HO_6, HB⟩ := hrel)
  cases gk with
  | zero => exact absurd HA.out (by simp [spec_l23States.l0])
  | succ k1 =>
   (have H := HA.out); clear HA; (simp only [spec_l23States.l0] at H); (by_cases c7 : x7_1 < (l0.length : Int))
   ·rw [if_pos c7] at H
    (have c7b0 := decide_eq_true c7); clear c7; (by_cases c8 : 0 ≤ x7_1)
    ·rw [if_pos c8] at H
     (have c8b0 := decide_eq_true c8); clear c8; (replace H := obS H); (obtain ⟨⟨t108, t109⟩, A9, H⟩ := H); (replace H : (if x7_1 < (t101.length : Int) then (if rdOf false t101 x7_1 = true then (spec_l23States.j1 k1 l0 l1 t101 x6_1 x7_1 t108 t109 false) else (spec_l23States.j1 k1 l0 l1 t101 x6_1 x7_1 t108 t109 t109)) else (none)) = some r := H); (have HC10 := Aside0.mk H); clear H; (have p107 : 0 ≤ (x7_1 : Int) := odt); (have q107 : x7_1 < (l0.length : Int) := odt); (obtain ⟨ad107, A107_4, c107_4, e107, hx107_0, hx107_1, hx107_2, hx107_3, hx107_4, hx107_5, hx107_6, hl107_4, hi107_4⟩ := at_T69 HR0.out x7_1 p107 q107); (cases e107); (replace hx107_0 := hcI HB hx107_0); (replace hx107_1 := hcI HB hx107_1); (replace hx107_2 := hcI HB hx107_2); (replace hx107_3 := hcI HB hx107_3); (replace hx107_4 := hcI HB hx107_4); (replace hx107_5 := hcI HB hx107_5); (replace hx107_6 := hcI HB hx107_6); (have HR107_4 := Aside0.mk hi107_4); (have HC107_4 := Aside0.mk hl107_4); clear hi107_4 hl107_4; (replace p107 := eq_true p107); (replace q107 := eq_true q107); (go_upto_region 8 with (first | ((with_reducible refine gate_callee (f := 91) rfl ?_); refine gL (some 27) Tryd.func91 #[.slice A1 l1.length c1, .string ((rd_T69 l0 x7_1).f0)] ?_; (with_reducible refine (spec_l23Text.calls k1 _ _ l1 ((rd_T69 l0 x7_1).f0) t108 t109 _ ?side1 ?side2 A9.out).mono ?_); (case side1 => exact Kd.C_below HR1.out (eI HB)); (case side2 => exact HC1.out); rintro e w' ⟨rfl, ⟨nd, rfl⟩⟩; refine ⟨_, rfl, ?_⟩))); ((try simp only [Act.put, aS1, aS2, aS3])); (go_cut [33] (fun v33 wc => ∃ (kq : Nat) (x33_9 : Bool), v33 = .bool x33_9 ∧ Aside0 (spec_l23States.j1 kq l0 l1 t101 x6_1 x7_1 t108 t109 x33_9 = some r) ∧ Aside0 (kq ≤ k1) ∧ Aside0 (Kd.R Kd.bool 4 wc w.heap.size (fun _ => True) v102 t101) ∧ Aside0 (Kd.R (Kd.int .i64) 3 wc w.heap.size (fun _ => True) u6 x6_1) ∧ Aside0 (Below w.heap.size w wc)))
     case first =>
      (have H := HC10.out); clear HC10; (by_cases c11 : x7_1 < (t101.length : Int))
      ·rw [if_pos c11] at H
       (have c11b0 := decide_eq_true c11); clear c11; ((first | rw [c11b0] | (simp only [i64_w, i32_w]; rw [c11b0]) | skip)); (obtain ⟨bq12, hbq12⟩ : ∃ b_ : Bool, b_ = (rdOf false t101 x7_1) := ⟨_, rfl⟩); (replace H : (if bq12 = true then (spec_l23States.j1 k1 l0 l1 t101 x6_1 x7_1 t108 t109 false) else (spec_l23States.j1 k1 l0 l1 t101 x6_1 x7_1 t108 t109 t109)) = some r := by rw [← hbq12] at H; exact H); (have Nbq12 := Aside0.mk hbq12); clear hbq12; (by_cases c13 : bq12 = true)
       ·subst c13
        (rw [if_pos rfl] at H); (have H' := Aside0.mk H); clear H; (obtain ⟨Ao14, co14, eo14⟩ := Kd.R_slice HO_5.out); subst eo14; (have p110 : 0 ≤ (x7_1 : Int) := odt); (have q110 : x7_1 < (t101.length : Int) := odt); (obtain ⟨ad110, e110, hx110_0⟩ := Kd.at_bool (Kd.R_reads' HO_5.out).2.2 x7_1 p110 q110); ((try rw [← Nbq12.out] at hx110_0)); (cases e110); (replace p110 := eq_true p110); (replace q110 := eq_true q110); (go_wp2); (go_meet)
        case rel => exact ⟨_, (false), (by first | rfl | (simp; done) | (simp [*]; done)), H', ⟨by have := HK1.out; first | omega | exact Nat.le_refl _⟩, ⟨rI HO_5⟩, ⟨rI HO_6⟩, ⟨eI HB⟩⟩
       ·replace c13 := Bool.eq_false_iff.mpr c13
        subst c13; (rw [if_neg (show ¬ (false = true) by decide)] at H); (have H' := Aside0.mk H); clear H; (obtain ⟨Ao15, co15, eo15⟩ := Kd.R_slice HO_5.out); subst eo15; (have p110 : 0 ≤ (x7_1 : Int) := odt); (have q110 : x7_1 < (t101.length : Int) := odt); (obtain ⟨ad110, e110, hx110_0⟩ := Kd.at_bool (Kd.R_reads' HO_5.out).2.2 x7_1 p110 q110); ((try rw [← Nbq12.out] at hx110_0)); (cases e110); (replace p110 := eq_true p110); (replace q110 := eq_true q110); (go_wp2); (go_meet)
        case rel => exact ⟨_, (t109), (by first | rfl | (simp; done) | (simp [*]; done)), H', ⟨by have := HK1.out; first | omega | exact Nat.le_refl _⟩, ⟨rI HO_5⟩, ⟨rI HO_6⟩, ⟨eI HB⟩⟩
      ·rw [if_neg c11] at H
       exact absurd H (by simp)
     case rest =>
      clear HC10; (try clear c1); (try clear p1); (try clear q1); (try clear hx1); (try clear p2); (try clear c5); (try clear c7); (try clear c7b0); (try clear c8); (try clear c8b0); (try clear c9); (try clear c10); (try clear p10); (try clear q10); (try clear hx10); (try clear c11); (try clear c11b0); (try clear p11); (try clear q11); (try clear hx11); (try clear q12); (try clear c13); (try clear hx107_0); (try clear hx107_1); (try clear hx107_2); (try clear hx107_3); (try clear hx107_4); (try clear hx107_5); (try clear hx107_6); (try clear hx110_0); (try clear p107); (try clear p110); (try clear p2); (try clear q107); (try clear q110); (obtain ⟨kq, x33_9, rfl, HA, HJ9, HO_5, HO_6, HB⟩ := hcut)
      cases kq with
      | zero => exact absurd HA.out (by simp [spec_l23States.j1])
      | succ kj9 =>
       (have H := HA.out); clear HA; (simp only [spec_l23States.j1] at H); (by_cases c16 : x33_9 = true)
       ·subst c16
        (rw [if_pos rfl] at H); (by_cases c17 : x6_1.length < 17592186044416)
        ·rw [if_pos c17] at H
         (have LMc17 := Aside0.mk c17); clear c17; (obtain ⟨y111, hy111⟩ : ∃ y_ : List Int, y_ = (x6_1 ++ [3]) := ⟨_, rfl⟩); (replace H : (spec_l23States.l0 kj9 l0 l1 t101 y111 (wrap64 (x7_1 + 1))) = some r := by first | (rw [hy111]; with_reducible exact H) | (have H2_ := (Option.bind_some _ _).symm.trans H; rw [hy111]; with_reducible exact H2_) | (have H2_ := (Option.bind_some _ _).symm.trans H; with_reducible exact H2_) | with_reducible exact H | (rw [hy111]; exact H) | exact H); (have Ny111 := Aside0.mk hy111); clear hy111; (have H' := Aside0.mk H); clear H; (go_wp2_with (first | ((with_reducible refine gate_builtin (b := .append) (xs := #[.tmp 42, .tmp 43]) rfl ?_); at_builtin; refine Kd.R_append (Kd.int .i64) (w0 := w) w.heap.size rfl (.tmp 42) (.tmp 43) 38 3 (.int .i64 0) 8 rfl Tryd.underlying38 info3 rfl (by decide) (by omega) u6 x6_1 3 [.int .i64 3] (fun _ => True) (fun _ => False) rfl rfl ?aP (fun _ hk => hk.elim) ?aF ?aO ?aB ?aS ?aL ?_; (case aP => exact rfl); (case aB => exact (eI HB)); (case aF => exact (fun _ _ => trivial)); (case aO => exact (rI HO_6)); (case aS => exact (below_size (eI HB))); (case aL => have := LMc17.out; omega); intro v112 w18 ho hb hg hat; rw [← Ny111.out] at ho; have n0_ := Aside0.mk (Kd.R_over' (rI HO_5) (Kd.R_typed (rI HO_6)) (by decide) hg); have n1_ := Aside0.mk (hb); have n2_ := Aside0.mk (ho); clear HO_5 HB HO_6; have HO_5 := n0_; have HB := n1_; have HO113 := n2_; clear n0_ n1_ n2_ ho hb hg hat))); go_roundg kj9
         case measure => have := HK1.out; have := HJ9.out; omega
         case rel => exact ⟨(y111), (wrap64 (x7_1 + 1)), (by first | rfl | (simp; done) | (simp [*]; done)), H', ⟨by have := HK1.out; have := HJ9.out; omega⟩, ⟨rI HO_5⟩, ⟨rI HO113⟩, ⟨eI HB⟩⟩
        ·rw [if_neg c17] at H
         exact absurd H (by simp)
       ·replace c16 := Bool.eq_false_iff.mpr c16
        subst c16; (rw [if_neg (show ¬ (false = true) by decide)] at H); (have HC19 := Aside0.mk H); clear H; (go_upto_region 10 with (fail)); (go_cut [45] (fun v45 wc => ∃ (kq : Nat) (x45_18 : Bool), v45 = .bool x45_18 ∧ Aside0 (spec_l23States.j2 kq l0 l1 t101 x6_1 x7_1 t108 t109 x45_18 = some r) ∧ Aside0 (kq ≤ kj9) ∧ Aside0 (Kd.R Kd.bool 4 wc w.heap.size (fun _ => True) v102 t101) ∧ Aside0 (Kd.R (Kd.int .i64) 3 wc w.heap.size (fun _ => True) u6 x6_1) ∧ Aside0 (Below w.heap.size w wc)))
        case first =>
         (have H := HC19.out); clear HC19; (by_cases c20 : 0 ≤ x7_1)
         ·rw [if_pos c20] at H
          (have c20b0 := decide_eq_true c20); clear c20; ((first | rw [c20b0] | (simp only [i64_w, i32_w]; rw [c20b0]) | skip)); (by_cases c21 : x7_1 < (t101.length : Int))
          ·rw [if_pos c21] at H
           (have c21b0 := decide_eq_true c21); clear c21; (obtain ⟨bq22, hbq22⟩ : ∃ b_ : Bool, b_ = (rdOf false t101 x7_1) := ⟨_, rfl⟩); (replace H : (if bq22 = true then (if x7_1 < (l0.length : Int) then (if (rd_T69 l0 x7_1).f5 = true then (spec_l23States.j2 kj9 l0 l1 t101 x6_1 x7_1 t108 t109 (!t109)) else (spec_l23States.j2 kj9 l0 l1 t101 x6_1 x7_1 t108 t109 false)) else (none)) else (spec_l23States.j2 kj9 l0 l1 t101 x6_1 x7_1 t108 t109 false)) = some r := by rw [← hbq22] at H; exact H); (have Nbq22 := Aside0.mk hbq22); clear hbq22; (by_cases c23 : bq22 = true)
           ·subst c23
            (rw [if_pos rfl] at H); (by_cases c24 : x7_1 < (l0.length : Int))
            ·rw [if_pos c24] at H
             (have c24b0 := decide_eq_true c24); clear c24; (obtain ⟨bq25, hbq25⟩ : ∃ b_ : Bool, b_ = ((rd_T69 l0 x7_1).f5) := ⟨_, rfl⟩); (replace H : (if bq25 = true then (spec_l23States.j2 kj9 l0 l1 t101 x6_1 x7_1 t108 t109 (!t109)) else (spec_l23States.j2 kj9 l0 l1 t101 x6_1 x7_1 t108 t109 false)) = some r := by rw [← hbq25] at H; exact H); (have Nbq25 := Aside0.mk hbq25); clear hbq25; (by_cases c26 : bq25 = true)
             ·subst c26
              (rw [if_pos rfl] at H); (have H' := Aside0.mk H); clear H; (obtain ⟨Ao27, co27, eo27⟩ := Kd.R_slice HO_5.out); subst eo27; (have p114 : 0 ≤ (x7_1 : Int) := odt); (have q114 : x7_1 < (t101.length : Int) := odt); (obtain ⟨ad114, e114, hx114_0⟩ := Kd.at_bool (Kd.R_reads' HO_5.out).2.2 x7_1 p114 q114); ((try rw [← Nbq22.out] at hx114_0)); ((try rw [← Nbq25.out] at hx114_0)); (cases e114); (replace p114 := eq_true p114); (replace q114 := eq_true q114); (have p115 : 0 ≤ (x7_1 : Int) := odt); (have q115 : x7_1 < (l0.length : Int) := odt); (obtain ⟨ad115, A115_4, c115_4, e115, hx115_0, hx115_1, hx115_2, hx115_3, hx115_4, hx115_5, hx115_6, hl115_4, hi115_4⟩ := at_T69 HR0.out x7_1 p115 q115); ((try rw [← Nbq22.out] at hx115_5)); ((try rw [← Nbq25.out] at hx115_5)); (obtain rfl : ad107 = ad115 := (by injection e115)); (replace hx115_0 := hcI HB hx115_0); (replace hx115_1 := hcI HB hx115_1); (replace hx115_2 := hcI HB hx115_2); (replace hx115_3 := hcI HB hx115_3); (replace hx115_4 := hcI HB hx115_4); (replace hx115_5 := hcI HB hx115_5); (replace hx115_6 := hcI HB hx115_6); (have HR115_4 := Aside0.mk hi115_4); (have HC115_4 := Aside0.mk hl115_4); clear hi115_4 hl115_4; (replace p115 := eq_true p115); (replace q115 := eq_true q115); (go_wp2); (go_meet)
              case rel => exact ⟨_, (!t109), (by first | rfl | (simp; done) | (simp [*]; done)), H', ⟨by have := HK1.out; have := HJ9.out; first | omega | exact Nat.le_refl _⟩, ⟨rI HO_5⟩, ⟨rI HO_6⟩, ⟨eI HB⟩⟩
             ·replace c26 := Bool.eq_false_iff.mpr c26
              subst c26; (rw [if_neg (show ¬ (false = true) by decide)] at H); (have H' := Aside0.mk H); clear H; (obtain ⟨Ao28, co28, eo28⟩ := Kd.R_slice HO_5.out); subst eo28; (have p114 : 0 ≤ (x7_1 : Int) := odt); (have q114 : x7_1 < (t101.length : Int) := odt); (obtain ⟨ad114, e114, hx114_0⟩ := Kd.at_bool (Kd.R_reads' HO_5.out).2.2 x7_1 p114 q114); ((try rw [← Nbq22.out] at hx114_0)); ((try rw [← Nbq25.out] at hx114_0)); (cases e114); (replace p114 := eq_true p114); (replace q114 := eq_true q114); (have p115 : 0 ≤ (x7_1 : Int) := odt); (have q115 : x7_1 < (l0.length : Int) := odt); (obtain ⟨ad115, A115_4, c115_4, e115, hx115_0, hx115_1, hx115_2, hx115_3, hx115_4, hx115_5, hx115_6, hl115_4, hi115_4⟩ := at_T69 HR0.out x7_1 p115 q115); ((try rw [← Nbq22.out] at hx115_5)); ((try rw [← Nbq25.out] at hx115_5)); (obtain rfl : ad107 = ad115 := (by injection e115)); (replace hx115_0 := hcI HB hx115_0); (replace hx115_1 := hcI HB hx115_1); (replace hx115_2 := hcI HB hx115_2); (replace hx115_3 := hcI HB hx115_3); (replace hx115_4 := hcI HB hx115_4); (replace hx115_5 := hcI HB hx115_5); (replace hx115_6 := hcI HB hx115_6); (have HR115_4 := Aside0.mk hi115_4); (have HC115_4 := Aside0.mk hl115_4); clear hi115_4 hl115_4; (replace p115 := eq_true p115); (replace q115 := eq_true q115); (go_wp2); (go_meet)
              case rel => exact ⟨_, (false), (by first | rfl | (simp; done) | (simp [*]; done)), H', ⟨by have := HK1.out; have := HJ9.out; first | omega | exact Nat.le_refl _⟩, ⟨rI HO_5⟩, ⟨rI HO_6⟩, ⟨eI HB⟩⟩
            ·rw [if_neg c24] at H
             exact absurd H (by simp)
           ·replace c23 := Bool.eq_false_iff.mpr c23
            subst c23; (rw [if_neg (show ¬ (false = true) by decide)] at H); (have H' := Aside0.mk H); clear H; (obtain ⟨Ao29, co29, eo29⟩ := Kd.R_slice HO_5.out); subst eo29; (have p114 : 0 ≤ (x7_1 : Int) := odt); (have q114 : x7_1 < (t101.length : Int) := odt); (obtain ⟨ad114, e114, hx114_0⟩ := Kd.at_bool (Kd.R_reads' HO_5.out).2.2 x7_1 p114 q114); ((try rw [← Nbq22.out] at hx114_0)); (cases e114); (replace p114 := eq_true p114); (replace q114 := eq_true q114); (go_wp2); (go_meet)
            case rel => exact ⟨_, (false), (by first | rfl | (simp; done) | (simp [*]; done)), H', ⟨by have := HK1.out; have := HJ9.out; first | omega | exact Nat.le_refl _⟩, ⟨rI HO_5⟩, ⟨rI HO_6⟩, ⟨eI HB⟩⟩
          ·rw [if_neg c21] at H
           exact absurd H (by simp)
         ·rw [if_neg c20] at H
          exact absurd H (by simp)
        case rest =>
         clear HC19; (try clear c1); (try clear p1); (try clear q1); (try clear hx1); (try clear c2); (try clear p2); (try clear q2); (try clear c5); (try clear p6); (try clear c7); (try clear c7b0); (try clear c8); (try clear c8b0); (try clear c9); (try clear c10); (try clear p10); (try clear q10); (try clear hx10); (try clear c11); (try clear c11b0); (try clear p11); (try clear q11); (try clear hx11); (try clear q12); (try clear c13); (try clear c16); (try clear c17); (try clear c20); (try clear c20b0); (try clear c21); (try clear c21b0); (try clear q22); (try clear c23); (try clear c24); (try clear c24b0); (try clear q25); (try clear c26); (try clear hx107_0); (try clear hx107_1); (try clear hx107_2); (try clear hx107_3); (try clear hx107_4); (try clear hx107_5); (try clear hx107_6); (try clear hx110_0); (try clear hx114_0); (try clear hx115_0); (try clear hx115_1); (try clear hx115_2); (try clear hx115_3); (try clear hx115_4); (try clear hx115_5); (try clear hx115_6); (try clear p1); (try clear p10); (try clear p107); (try clear p11); (try clear p110); (try clear p114); (try clear p115); (try clear p2); (try clear q1); (try clear q10); (try clear q107); (try clear q11); (try clear q110); (try clear q114); (try clear q115); (try clear q12); (obtain ⟨kq, x45_18, rfl, HA, HJ18, HO_5, HO_6, HB⟩ := hcut)
         cases kq with
         | zero => exact absurd HA.out (by simp [spec_l23States.j2])
         | succ kj18 =>
          (have H := HA.out); clear HA; (simp only [spec_l23States.j2] at H); (by_cases c30 : x45_18 = true)
          ·subst c30
           (rw [if_pos rfl] at H); (by_cases c31 : x6_1.length < 17592186044416)
           ·rw [if_pos c31] at H
            (have LMc31 := Aside0.mk c31); clear c31; (obtain ⟨y116, hy116⟩ : ∃ y_ : List Int, y_ = (x6_1 ++ [1]) := ⟨_, rfl⟩); (replace H : (spec_l23States.l0 kj18 l0 l1 t101 y116 (wrap64 (x7_1 + 1))) = some r := by first | (rw [hy116]; with_reducible exact H) | (have H2_ := (Option.bind_some _ _).symm.trans H; rw [hy116]; with_reducible exact H2_) | (have H2_ := (Option.bind_some _ _).symm.trans H; with_reducible exact H2_) | with_reducible exact H | (rw [hy116]; exact H) | exact H); (have Ny116 := Aside0.mk hy116); clear hy116; (have H' := Aside0.mk H); clear H; (go_wp2_with (first | ((with_reducible refine gate_builtin (b := .append) (xs := #[.tmp 61, .tmp 62]) rfl ?_); at_builtin; refine Kd.R_append (Kd.int .i64) (w0 := w) w.heap.size rfl (.tmp 61) (.tmp 62) 38 3 (.int .i64 0) 8 rfl Tryd.underlying38 info3 rfl (by decide) (by omega) u6 x6_1 1 [.int .i64 1] (fun _ => True) (fun _ => False) rfl rfl ?aP (fun _ hk => hk.elim) ?aF ?aO ?aB ?aS ?aL ?_; (case aP => exact rfl); (case aB => exact (eI HB)); (case aF => exact (fun _ _ => trivial)); (case aO => exact (rI HO_6)); (case aS => exact (below_size (eI HB))); (case aL => have := LMc31.out; omega); intro v117 w32 ho hb hg hat; rw [← Ny116.out] at ho; have n0_ := Aside0.mk (Kd.R_over' (rI HO_5) (Kd.R_typed (rI HO_6)) (by decide) hg); have n1_ := Aside0.mk (hb); have n2_ := Aside0.mk (ho); clear HO_5 HB HO_6; have HO_5 := n0_; have HB := n1_; have HO118 := n2_; clear n0_ n1_ n2_ ho hb hg hat))); go_roundg kj18
            case measure => have := HK1.out; have := HJ9.out; have := HJ18.out; omega
            case rel => exact ⟨(y116), (wrap64 (x7_1 + 1)), (by first | rfl | (simp; done) | (simp [*]; done)), H', ⟨by have := HK1.out; have := HJ9.out; have := HJ18.out; omega⟩, ⟨rI HO_5⟩, ⟨rI HO118⟩, ⟨eI HB⟩⟩
           ·rw [if_neg c31] at H
            exact absurd H (by simp)
          ·replace c30 := Bool.eq_false_iff.mpr c30
           subst c30; (rw [if_neg (show ¬ (false = true) by decide)] at H); (by_cases c33 : 0 ≤ x7_1)
           ·rw [if_pos c33] at H
            (have c33b0 := decide_eq_true c33); clear c33; (by_cases c34 : x7_1 < (t101.length : Int))
            ·rw [if_pos c34] at H
             (have c34b0 := decide_eq_true c34); clear c34; (obtain ⟨bq35, hbq35⟩ : ∃ b_ : Bool, b_ = (rdOf false t101 x7_1) := ⟨_, rfl⟩); (replace H : (if bq35 = true then (if t109 = true then (if x7_1 < (l0.length : Int) then ((spec_l23Value.f kj18 ((rd_T69 l0 x7_1).f0) ((rd_T69 l0 x7_1).f1) ((rd_T69 l0 x7_1).f2) ((rd_T69 l0 x7_1).f3) ((rd_T69 l0 x7_1).f4) ((rd_T69 l0 x7_1).f5) ((rd_T69 l0 x7_1).f6) t108).bind fun t121 => (if t121 = true then (if x6_1.length < 17592186044416 then (spec_l23States.l0 kj18 l0 l1 t101 (x6_1 ++ [0]) (wrap64 (x7_1 + 1))) else (none)) else (if x6_1.length < 17592186044416 then (spec_l23States.l0 kj18 l0 l1 t101 (x6_1 ++ [2]) (wrap64 (x7_1 + 1))) else (none)))) else (none)) else (if x6_1.length < 17592186044416 then (spec_l23States.l0 kj18 l0 l1 t101 (x6_1 ++ [0]) (wrap64 (x7_1 + 1))) else (none))) else (if x6_1.length < 17592186044416 then (spec_l23States.l0 kj18 l0 l1 t101 (x6_1 ++ [0]) (wrap64 (x7_1 + 1))) else (none))) = some r := by rw [← hbq35] at H; exact H); (have Nbq35 := Aside0.mk hbq35); clear hbq35; (by_cases c36 : bq35 = true)
             ·subst c36
              (rw [if_pos rfl] at H); (by_cases c37 : t109 = true)
              ·subst c37
               (rw [if_pos rfl] at H); (by_cases c38 : x7_1 < (l0.length : Int))
               ·rw [if_pos c38] at H
                (have c38b0 := decide_eq_true c38); clear c38; (replace H := obS H); (obtain ⟨t121, A39, H⟩ := H); (by_cases c40 : t121 = true)
                ·subst c40
                 (rw [if_pos rfl] at H); (by_cases c41 : x6_1.length < 17592186044416)
                 ·rw [if_pos c41] at H
                  (have LMc41 := Aside0.mk c41); clear c41; (obtain ⟨y122, hy122⟩ : ∃ y_ : List Int, y_ = (x6_1 ++ [0]) := ⟨_, rfl⟩); (replace H : (spec_l23States.l0 kj18 l0 l1 t101 y122 (wrap64 (x7_1 + 1))) = some r := by first | (rw [hy122]; with_reducible exact H) | (have H2_ := (Option.bind_some _ _).symm.trans H; rw [hy122]; with_reducible exact H2_) | (have H2_ := (Option.bind_some _ _).symm.trans H; with_reducible exact H2_) | with_reducible exact H | (rw [hy122]; exact H) | exact H); (have Ny122 := Aside0.mk hy122); clear hy122; (have H' := Aside0.mk H); clear H; (obtain ⟨Ao42, co42, eo42⟩ := Kd.R_slice HO_5.out); subst eo42; (have p119 : 0 ≤ (x7_1 : Int) := odt); (have q119 : x7_1 < (t101.length : Int) := odt); (obtain ⟨ad119, e119, hx119_0⟩ := Kd.at_bool (Kd.R_reads' HO_5.out).2.2 x7_1 p119 q119); ((try rw [← Nbq35.out] at hx119_0)); (cases e119); (replace p119 := eq_true p119); (replace q119 := eq_true q119); (have p120 : 0 ≤ (x7_1 : Int) := odt); (have q120 : x7_1 < (l0.length : Int) := odt); (obtain ⟨ad120, A120_4, c120_4, e120, hx120_0, hx120_1, hx120_2, hx120_3, hx120_4, hx120_5, hx120_6, hl120_4, hi120_4⟩ := at_T69 HR0.out x7_1 p120 q120); ((try rw [← Nbq35.out] at hx120_5)); (obtain rfl : ad107 = ad120 := (by injection e120)); (replace hx120_0 := hcI HB hx120_0); (replace hx120_1 := hcI HB hx120_1); (replace hx120_2 := hcI HB hx120_2); (replace hx120_3 := hcI HB hx120_3); (replace hx120_4 := hcI HB hx120_4); (replace hx120_5 := hcI HB hx120_5); (replace hx120_6 := hcI HB hx120_6); (have HR120_4 := Aside0.mk hi120_4); (have HC120_4 := Aside0.mk hl120_4); clear hi120_4 hl120_4; (replace p120 := eq_true p120); (replace q120 := eq_true q120); (go_wp2_with (first | (go_at_call 92; (with_reducible refine (spec_l23Value.calls kj18 ((rd_T69 l0 x7_1).f0) ((rd_T69 l0 x7_1).f1) ((rd_T69 l0 x7_1).f2) ((rd_T69 l0 x7_1).f3) _ _ ((rd_T69 l0 x7_1).f4) ((rd_T69 l0 x7_1).f5) ((rd_T69 l0 x7_1).f6) t108 true _ ?side1 ?side2 A39.out).mono ?_); (case side1 => exact Kd.C_below HR120_4.out (eI HB)); (case side2 => exact HC120_4.out); rintro e w43 ⟨rfl, hb⟩; have n0_ := Aside0.mk (rbI hb HO_5); have n1_ := Aside0.mk (rbI hb HO_6); have n2_ := Aside0.mk (sI hb HB); clear HO_5 HO_6 HB; have HO_5 := n0_; have HO_6 := n1_; have HB := n2_; clear n0_ n1_ n2_; (try clear hb); (try clear hb2); (try clear hk); (try clear hi)) | ((with_reducible refine gate_builtin (b := .append) (xs := #[.tmp 30, .tmp 31]) rfl ?_); at_builtin; refine Kd.R_append (Kd.int .i64) (w0 := w) w.heap.size rfl (.tmp 30) (.tmp 31) 38 3 (.int .i64 0) 8 rfl Tryd.underlying38 info3 rfl (by decide) (by omega) u6 x6_1 0 [.int .i64 0] (fun _ => True) (fun _ => False) rfl rfl ?aP (fun _ hk => hk.elim) ?aF ?aO ?aB ?aS ?aL ?_; (case aP => exact rfl); (case aB => exact (eI HB)); (case aF => exact (fun _ _ => trivial)); (case aO => exact (rI HO_6)); (case aS => exact (below_size (eI HB))); (case aL => have := LMc41.out; omega); intro v123 w44 ho hb hg hat; rw [← Ny122.out] at ho; have n0_ := Aside0.mk (Kd.R_over' (rI HO_5) (Kd.R_typed (rI HO_6)) (by decide) hg); have n1_ := Aside0.mk (hb); have n2_ := Aside0.mk (ho); clear HO_5 HB HO_6; have HO_5 := n0_; have HB := n1_; have HO124 := n2_; clear n0_ n1_ n2_ ho hb hg hat))); go_roundg kj18
                  case measure => have := HK1.out; have := HJ9.out; have := HJ18.out; omega
                  case rel => exact ⟨(y122), (wrap64 (x7_1 + 1)), (by first | rfl | (simp; done) | (simp [*]; done)), H', ⟨by have := HK1.out; have := HJ9.out; have := HJ18.out; omega⟩, ⟨rI HO_5⟩, ⟨rI HO124⟩, ⟨eI HB⟩⟩
                 ·rw [if_neg c41] at H
                  exact absurd H (by simp)
                ·replace c40 := Bool.eq_false_iff.mpr c40
                 subst c40; (rw [if_neg (show ¬ (false = true) by decide)] at H); (by_cases c45 : x6_1.length < 17592186044416)
                 ·rw [if_pos c45] at H
                  (have LMc45 := Aside0.mk c45); clear c45; (obtain ⟨y125, hy125⟩ : ∃ y_ : List Int, y_ = (x6_1 ++ [2]) := ⟨_, rfl⟩); (replace H : (spec_l23States.l0 kj18 l0 l1 t101 y125 (wrap64 (x7_1 + 1))) = some r := by first | (rw [hy125]; with_reducible exact H) | (have H2_ := (Option.bind_some _ _).symm.trans H; rw [hy125]; with_reducible exact H2_) | (have H2_ := (Option.bind_some _ _).symm.trans H; with_reducible exact H2_) | with_reducible exact H | (rw [hy125]; exact H) | exact H); (have Ny125 := Aside0.mk hy125); clear hy125; (have H' := Aside0.mk H); clear H; (obtain ⟨Ao46, co46, eo46⟩ := Kd.R_slice HO_5.out); subst eo46; (have p119 : 0 ≤ (x7_1 : Int) := odt); (have q119 : x7_1 < (t101.length : Int) := odt); (obtain ⟨ad119, e119, hx119_0⟩ := Kd.at_bool (Kd.R_reads' HO_5.out).2.2 x7_1 p119 q119); ((try rw [← Nbq35.out] at hx119_0)); (cases e119); (replace p119 := eq_true p119); (replace q119 := eq_true q119); (have p120 : 0 ≤ (x7_1 : Int) := odt); (have q120 : x7_1 < (l0.length : Int) := odt); (obtain ⟨ad120, A120_4, c120_4, e120, hx120_0, hx120_1, hx120_2, hx120_3, hx120_4, hx120_5, hx120_6, hl120_4, hi120_4⟩ := at_T69 HR0.out x7_1 p120 q120); ((try rw [← Nbq35.out] at hx120_5)); (obtain rfl : ad107 = ad120 := (by injection e120)); (replace hx120_0 := hcI HB hx120_0); (replace hx120_1 := hcI HB hx120_1); (replace hx120_2 := hcI HB hx120_2); (replace hx120_3 := hcI HB hx120_3); (replace hx120_4 := hcI HB hx120_4); (replace hx120_5 := hcI HB hx120_5); (replace hx120_6 := hcI HB hx120_6); (have HR120_4 := Aside0.mk hi120_4); (have HC120_4 := Aside0.mk hl120_4); clear hi120_4 hl120_4; (replace p120 := eq_true p120); (replace q120 := eq_true q120); (go_wp2_with (first | (go_at_call 92; (with_reducible refine (spec_l23Value.calls kj18 ((rd_T69 l0 x7_1).f0) ((rd_T69 l0 x7_1).f1) ((rd_T69 l0 x7_1).f2) ((rd_T69 l0 x7_1).f3) _ _ ((rd_T69 l0 x7_1).f4) ((rd_T69 l0 x7_1).f5) ((rd_T69 l0 x7_1).f6) t108 false _ ?side1 ?side2 A39.out).mono ?_); (case side1 => exact Kd.C_below HR120_4.out (eI HB)); (case side2 => exact HC120_4.out); rintro e w47 ⟨rfl, hb⟩; have n0_ := Aside0.mk (rbI hb HO_5); have n1_ := Aside0.mk (rbI hb HO_6); have n2_ := Aside0.mk (sI hb HB); clear HO_5 HO_6 HB; have HO_5 := n0_; have HO_6 := n1_; have HB := n2_; clear n0_ n1_ n2_; (try clear hb); (try clear hb2); (try clear hk); (try clear hi)) | ((with_reducible refine gate_builtin (b := .append) (xs := #[.tmp 81, .tmp 82]) rfl ?_); at_builtin; refine Kd.R_append (Kd.int .i64) (w0 := w) w.heap.size rfl (.tmp 81) (.tmp 82) 38 3 (.int .i64 0) 8 rfl Tryd.underlying38 info3 rfl (by decide) (by omega) u6 x6_1 2 [.int .i64 2] (fun _ => True) (fun _ => False) rfl rfl ?aP (fun _ hk => hk.elim) ?aF ?aO ?aB ?aS ?aL ?_; (case aP => exact rfl); (case aB => exact (eI HB)); (case aF => exact (fun _ _ => trivial)); (case aO => exact (rI HO_6)); (case aS => exact (below_size (eI HB))); (case aL => have := LMc45.out; omega); intro v126 w48 ho hb hg hat; rw [← Ny125.out] at ho; have n0_ := Aside0.mk (Kd.R_over' (rI HO_5) (Kd.R_typed (rI HO_6)) (by decide) hg); have n1_ := Aside0.mk (hb); have n2_ := Aside0.mk (ho); clear HO_5 HB HO_6; have HO_5 := n0_; have HB := n1_; have HO127 := n2_; clear n0_ n1_ n2_ ho hb hg hat))); go_roundg kj18
                  case measure => have := HK1.out; have := HJ9.out; have := HJ18.out; omega
                  case rel => exact ⟨(y125), (wrap64 (x7_1 + 1)), (by first | rfl | (simp; done) | (simp [*]; done)), H', ⟨by have := HK1.out; have := HJ9.out; have := HJ18.out; omega⟩, ⟨rI HO_5⟩, ⟨rI HO127⟩, ⟨eI HB⟩⟩
                 ·rw [if_neg c45] at H
                  exact absurd H (by simp)
               ·rw [if_neg c38] at H
                exact absurd H (by simp)
              ·replace c37 := Bool.eq_false_iff.mpr c37
               subst c37; (rw [if_neg (show ¬ (false = true) by decide)] at H); (by_cases c49 : x6_1.length < 17592186044416)
               ·rw [if_pos c49] at H
                (have LMc49 := Aside0.mk c49); clear c49; (obtain ⟨y128, hy128⟩ : ∃ y_ : List Int, y_ = (x6_1 ++ [0]) := ⟨_, rfl⟩); (replace H : (spec_l23States.l0 kj18 l0 l1 t101 y128 (wrap64 (x7_1 + 1))) = some r := by first | (rw [hy128]; with_reducible exact H) | (have H2_ := (Option.bind_some _ _).symm.trans H; rw [hy128]; with_reducible exact H2_) | (have H2_ := (Option.bind_some _ _).symm.trans H; with_reducible exact H2_) | with_reducible exact H | (rw [hy128]; exact H) | exact H); (have Ny128 := Aside0.mk hy128); clear hy128; (have H' := Aside0.mk H); clear H; (obtain ⟨Ao50, co50, eo50⟩ := Kd.R_slice HO_5.out); subst eo50; (have p119 : 0 ≤ (x7_1 : Int) := odt); (have q119 : x7_1 < (t101.length : Int) := odt); (obtain ⟨ad119, e119, hx119_0⟩ := Kd.at_bool (Kd.R_reads' HO_5.out).2.2 x7_1 p119 q119); ((try rw [← Nbq35.out] at hx119_0)); (cases e119); (replace p119 := eq_true p119); (replace q119 := eq_true q119); (go_wp2_with (first | ((with_reducible refine gate_builtin (b := .append) (xs := #[.tmp 30, .tmp 31]) rfl ?_); at_builtin; refine Kd.R_append (Kd.int .i64) (w0 := w) w.heap.size rfl (.tmp 30) (.tmp 31) 38 3 (.int .i64 0) 8 rfl Tryd.underlying38 info3 rfl (by decide) (by omega) u6 x6_1 0 [.int .i64 0] (fun _ => True) (fun _ => False) rfl rfl ?aP (fun _ hk => hk.elim) ?aF ?aO ?aB ?aS ?aL ?_; (case aP => exact rfl); (case aB => exact (eI HB)); (case aF => exact (fun _ _ => trivial)); (case aO => exact (rI HO_6)); (case aS => exact (below_size (eI HB))); (case aL => have := LMc49.out; omega); intro v129 w51 ho hb hg hat; rw [← Ny128.out] at ho; have n0_ := Aside0.mk (Kd.R_over' (rI HO_5) (Kd.R_typed (rI HO_6)) (by decide) hg); have n1_ := Aside0.mk (hb); have n2_ := Aside0.mk (ho); clear HO_5 HB HO_6; have HO_5 := n0_; have HB := n1_; have HO130 := n2_; clear n0_ n1_ n2_ ho hb hg hat))); go_roundg kj18
                case measure => have := HK1.out; have := HJ9.out; have := HJ18.out; omega
                case rel => exact ⟨(y128), (wrap64 (x7_1 + 1)), (by first | rfl | (simp; done) | (simp [*]; done)), H', ⟨by have := HK1.out; have := HJ9.out; have := HJ18.out; omega⟩, ⟨rI HO_5⟩, ⟨rI HO130⟩, ⟨eI HB⟩⟩
               ·rw [if_neg c49] at H
                exact absurd H (by simp)
             ·replace c36 := Bool.eq_false_iff.mpr c36
              subst c36; (rw [if_neg (show ¬ (false = true) by decide)] at H); (by_cases c52 : x6_1.length < 17592186044416)
              ·rw [if_pos c52] at H
               (have LMc52 := Aside0.mk c52); clear c52; (obtain ⟨y131, hy131⟩ : ∃ y_ : List Int, y_ = (x6_1 ++ [0]) := ⟨_, rfl⟩); (replace H : (spec_l23States.l0 kj18 l0 l1 t101 y131 (wrap64 (x7_1 + 1))) = some r := by first | (rw [hy131]; with_reducible exact H) | (have H2_ := (Option.bind_some _ _).symm.trans H; rw [hy131]; with_reducible exact H2_) | (have H2_ := (Option.bind_some _ _).symm.trans H; with_reducible exact H2_) | with_reducible exact H | (rw [hy131]; exact H) | exact H); (have Ny131 := Aside0.mk hy131); clear hy131; (have H' := Aside0.mk H); clear H; (obtain ⟨Ao53, co53, eo53⟩ := Kd.R_slice HO_5.out); subst eo53; (have p119 : 0 ≤ (x7_1 : Int) := odt); (have q119 : x7_1 < (t101.length : Int) := odt); (obtain ⟨ad119, e119, hx119_0⟩ := Kd.at_bool (Kd.R_reads' HO_5.out).2.2 x7_1 p119 q119); ((try rw [← Nbq35.out] at hx119_0)); (cases e119); (replace p119 := eq_true p119); (replace q119 := eq_true q119); (go_wp2_with (first | ((with_reducible refine gate_builtin (b := .append) (xs := #[.tmp 30, .tmp 31]) rfl ?_); at_builtin; refine Kd.R_append (Kd.int .i64) (w0 := w) w.heap.size rfl (.tmp 30) (.tmp 31) 38 3 (.int .i64 0) 8 rfl Tryd.underlying38 info3 rfl (by decide) (by omega) u6 x6_1 0 [.int .i64 0] (fun _ => True) (fun _ => False) rfl rfl ?aP (fun _ hk => hk.elim) ?aF ?aO ?aB ?aS ?aL ?_; (case aP => exact rfl); (case aB => exact (eI HB)); (case aF => exact (fun _ _ => trivial)); (case aO => exact (rI HO_6)); (case aS => exact (below_size (eI HB))); (case aL => have := LMc52.out; omega); intro v132 w54 ho hb hg hat; rw [← Ny131.out] at ho; have n0_ := Aside0.mk (Kd.R_over' (rI HO_5) (Kd.R_typed (rI HO_6)) (by decide) hg); have n1_ := Aside0.mk (hb); have n2_ := Aside0.mk (ho); clear HO_5 HB HO_6; have HO_5 := n0_; have HB := n1_; have HO133 := n2_; clear n0_ n1_ n2_ ho hb hg hat))); go_roundg kj18
               case measure => have := HK1.out; have := HJ9.out; have := HJ18.out; omega
               case rel => exact ⟨(y131), (wrap64 (x7_1 + 1)), (by first | rfl | (simp; done) | (simp [*]; done)), H', ⟨by have := HK1.out; have := HJ9.out; have := HJ18.out; omega⟩, ⟨rI HO_5⟩, ⟨rI HO133⟩, ⟨eI HB⟩⟩
              ·rw [if_neg c52] at H
               exact absurd H (by simp)
            ·rw [if_neg c34] at H
             exact absurd H (by simp)
           ·rw [if_neg c33] at H
            exact absurd H (by simp)
    ·rw [if_neg c8] at H
     exact absurd H (by simp)
   ·rw [if_neg c7] at H
    (have c7b0 := decide_eq_false c7); clear c7; (obtain rfl := Option.some.inj H); (go_wp2); go_ret; (exact ⟨_, by first | rfl | (simp [errW_none, errW_some] <;> rfl) | (simp [*, errW_none, errW_some] <;> rfl), rI HO_6, eI HB⟩)
/-! ### spec_IsComplete: function 15 -/
def spec_IsComplete.l0 : Nat → List Int → Int → Option (Bool × Bool)
 | 0, _, _ => none
 | k + 1, x6, x7 => if x7 < (x6.length : Int) then (if 0 ≤ x7 then (if (rd x6 x7) = 0 then (spec_IsComplete.l0 k x6 (wrap64 (x7 + 1))) else (some (false, true))) else (none)) else (some (true, true))
def spec_IsComplete.f (k : Nat) (l0 : List (S69)) (l1 : List (S58)) : Option (Bool × Bool) := (spec_l23Answers.f k l0 l1).bind fun t101 => (if t101 = true then ((spec_l23States.f k l0 l1).bind fun t102 => (spec_IsComplete.l0 k t102 0)) else (some (false, false)))
set_option maxHeartbeats 8000000 in
set_option maxRecDepth 100000 in
theorem spec_IsComplete.calls (k : Nat) (A0 : Option Addr) (c0 : Nat) (l0 : List (S69)) (A1 : Option Addr) (c1 : Nat) (l1 : List (S58)) (r1 : Bool) (r2 : Bool) (w : World) (hr0 : Kd.C k69 w A0 l0.length l0) (hc0 : l0.length ≤ c0) (hr1 : Kd.C k58 w A1 l1.length l1) (hc1 : l1.length ≤ c1) (h : spec_IsComplete.f k l0 l1 = some (r1, r2)) :
  Calls Tryd.prog 15 #[.slice A0 l0.length c0, .slice A1 l1.length c1] w fun e w' => e = .returned (.tuple #[.bool r1, .bool r2]) ∧ Below w.heap.size w w' := by
 (have HR0 := Aside0.mk hr0); (have HC0 := Aside0.mk hc0); clear hr0 hc0; (have HR1 := Aside0.mk hr1); (have HC1 := Aside0.mk hc1); clear hr1 hc1; (have HB := Aside0.mk (Below.refl w.heap.size w)); (unfold spec_IsComplete.f at h); (have H := h); clear h; (replace H := obS H); (obtain ⟨t101, A3, H⟩ := H); (by_cases c4 : t101 = true)
 ·subst c4
  (rw [if_pos rfl] at H); (replace H := obS H); (obtain ⟨t102, A5, H⟩ := H); (have H' := Aside0.mk H); clear H; (go_enter Tryd.func15, Tryd.ntmps15); (go_wp2_with (first | ((with_reducible refine gate_callee (f := 52) rfl ?_); refine gL (some 10) Tryd.func52 #[.slice A0 l0.length c0, .slice A1 l1.length c1] ?_; (with_reducible refine (spec_l23Answers.calls k _ _ l0 _ _ l1 true _ ?side1 ?side2 ?side3 ?side4 A3.out).mono ?_); (case side1 => exact cI HR0.out); (case side2 => exact HC0.out); (case side3 => exact cI HR1.out); (case side4 => exact HC1.out); rintro e w6 ⟨rfl, hb⟩; refine ⟨_, rfl, ?_⟩; have n0_ := Aside0.mk (sI hb HB); clear HB; have HB := n0_; clear n0_; (try clear hb); (try clear hb2); (try clear hk); (try clear hi)) | ((with_reducible refine gate_callee (f := 53) rfl ?_); refine gL (some 14) Tryd.func53 #[.slice A0 l0.length c0, .slice A1 l1.length c1] ?_; (with_reducible refine (spec_l23States.calls k _ _ l0 _ _ l1 t102 _ ?side1 ?side2 ?side3 ?side4 A5.out).mono ?_); (case side1 => exact Kd.C_below HR0.out (eI HB)); (case side2 => exact HC0.out); (case side3 => exact Kd.C_below HR1.out (eI HB)); (case side4 => exact HC1.out); rintro e w7 ⟨v103, rfl, ho0, hb⟩; refine ⟨_, rfl, ?_⟩; have n0_ := Aside0.mk (Kd.R_lower ho0 (below_size (eI HB))); have n1_ := Aside0.mk (sI hb HB); clear HB; have HO104 := n0_; have HB := n1_; clear n0_ n1_; (try clear hb); (try clear hb2); (try clear hk); (try clear hi); (try clear ho0)))); (go_loopg [7] k (fun kq v7 w' => ∃ (x7_1 : Int), v7 = .int .i64 x7_1 ∧ Aside0 (spec_IsComplete.l0 kq t102 x7_1 = some (r1, r2)) ∧ Aside0 (kq ≤ k) ∧ Aside0 (Kd.R (Kd.int .i64) 3 w' w.heap.size (fun _ => True) v103 t102) ∧ Aside0 (Below w.heap.size w w')))
  case atStart => exact ⟨(0), (by first | rfl | (simp; done) | (simp [*]; done)), H', ⟨Nat.le_refl _⟩, ⟨rI HO104⟩, ⟨eI HB⟩⟩
  case round =>
   (clear H'); (try clear c1); (try clear p2); (try clear c4); (try clear c5); (obtain ⟨x7_1, rfl, HA, HK1, HO_6, HB⟩ := hrel)
   cases gk with
   | zero => exact absurd HA.out (by simp [spec_IsComplete.l0])
   | succ k1 =>
    (have H := HA.out); clear HA; (simp only [spec_IsComplete.l0] at H); (by_cases c8 : x7_1 < (t102.length : Int))
    ·rw [if_pos c8] at H
     (have c8b0 := decide_eq_true c8); clear c8; (by_cases c9 : 0 ≤ x7_1)
     ·rw [if_pos c9] at H
      (have c9b0 := decide_eq_true c9); clear c9; (by_cases c10 : (rd t102 x7_1) = 0)
      ·rw [if_pos c10] at H
       (have c10b0 : ((rd t102 x7_1) == 0) = true := beq_iff_eq.mpr c10); (have c10b1 : ((rd t102 x7_1) != 0) = false := bne_eq_false_iff_eq.mpr c10); clear c10; (have H' := Aside0.mk H); clear H; (obtain ⟨Ao11, co11, eo11⟩ := Kd.R_slice HO_6.out); subst eo11; (have p105 : 0 ≤ (x7_1 : Int) := odt); (have q105 : x7_1 < (t102.length : Int) := odt); (obtain ⟨ad105, e105, hx105_0⟩ := Kd.at_int (Kd.R_reads' HO_6.out).2.2 x7_1 p105 q105); (cases e105); (replace p105 := eq_true p105); (replace q105 := eq_true q105); (go_wp2); go_roundg k1
       case measure => have := HK1.out; omega
       case rel => exact ⟨(wrap64 (x7_1 + 1)), (by first | rfl | (simp; done) | (simp [*]; done)), H', ⟨by have := HK1.out; omega⟩, ⟨rI HO_6⟩, ⟨eI HB⟩⟩
      ·rw [if_neg c10] at H
       (have c10b0 : ((rd t102 x7_1) == 0) = false := beq_eq_false_iff_ne.mpr c10); (have c10b1 : ((rd t102 x7_1) != 0) = true := bne_iff_ne.mpr c10); (simp only [Option.some.injEq, Prod.mk.injEq] at H); (obtain ⟨rfl, rfl⟩ := H); (obtain ⟨Ao12, co12, eo12⟩ := Kd.R_slice HO_6.out); subst eo12; (have p105 : 0 ≤ (x7_1 : Int) := odt); (have q105 : x7_1 < (t102.length : Int) := odt); (obtain ⟨ad105, e105, hx105_0⟩ := Kd.at_int (Kd.R_reads' HO_6.out).2.2 x7_1 p105 q105); (cases e105); (replace p105 := eq_true p105); (replace q105 := eq_true q105); (go_wp2); (go_ret2); (exact ⟨rfl, eI HB⟩)
     ·rw [if_neg c9] at H
      exact absurd H (by simp)
    ·rw [if_neg c8] at H
     (have c8b0 := decide_eq_false c8); clear c8; (simp only [Option.some.injEq, Prod.mk.injEq] at H); (obtain ⟨rfl, rfl⟩ := H); (obtain ⟨Ao13, co13, eo13⟩ := Kd.R_slice HO_6.out); subst eo13; (go_wp2); (go_ret2); (exact ⟨rfl, eI HB⟩)
 ·replace c4 := Bool.eq_false_iff.mpr c4
  subst c4; (rw [if_neg (show ¬ (false = true) by decide)] at H); (simp only [Option.some.injEq, Prod.mk.injEq] at H); (obtain ⟨rfl, rfl⟩ := H); (go_enter Tryd.func15, Tryd.ntmps15); (go_wp2_with (first | ((with_reducible refine gate_callee (f := 52) rfl ?_); refine gL (some 10) Tryd.func52 #[.slice A0 l0.length c0, .slice A1 l1.length c1] ?_; (with_reducible refine (spec_l23Answers.calls k _ _ l0 _ _ l1 false _ ?side1 ?side2 ?side3 ?side4 A3.out).mono ?_); (case side1 => exact cI HR0.out); (case side2 => exact HC0.out); (case side3 => exact cI HR1.out); (case side4 => exact HC1.out); rintro e w14 ⟨rfl, hb⟩; refine ⟨_, rfl, ?_⟩; have n0_ := Aside0.mk (sI hb HB); clear HB; have HB := n0_; clear n0_; (try clear hb); (try clear hb2); (try clear hk); (try clear hi)))); (go_ret2); (exact ⟨rfl, eI HB⟩)
/-! ### laws_toAnswer: function 54 -/
def laws_toAnswer.f (a0_0 : ByteArray) (a0_1 : ByteArray) : Option (ByteArray × ByteArray) := some (a0_0, a0_1)
set_option maxHeartbeats 8000000 in
set_option maxRecDepth 100000 in
theorem laws_toAnswer.calls (a0_0 : ByteArray) (a0_1 : ByteArray) (r1 : ByteArray) (r2 : ByteArray) (w : World) (h : laws_toAnswer.f a0_0 a0_1 = some (r1, r2)) :
  Calls Tryd.prog 54 #[.agg #[.string a0_0, .string a0_1]] w fun e w' => e = .returned (.agg #[.string r1, .string r2]) ∧ Below w.heap.size w w' := by
 (have hu76 := Tryd.underlying76); (have hu58 := Tryd.underlying58); (have HB := Aside0.mk (Below.refl w.heap.size w)); (unfold laws_toAnswer.f at h); (have H := h); clear h; (simp only [Option.some.injEq, Prod.mk.injEq] at H); (obtain ⟨rfl, rfl⟩ := H); (go_enter Tryd.func54, Tryd.ntmps54); (go_wp2_with (first | ((with_reducible refine gate_dst (N := 1) rfl ?_); refine box_event ?hg (N := 1) ?hd (cs := #[.string a0_0, .string a0_1]) (t := 76) ?hr ?_; (case hd => rfl); (case hg => rfl); (case hr => first | (go_simp; done) | (go_simp; rfl)); intro gb101 hg w2 hbox hb; have hB_ := zI hb HB; have n0_ := Aside0.mk (below_step hB_ hb); have n1_ := Aside0.mk (hbox); have n2_ := Aside0.mk (bx0 hg hB_); have n3_ := n2_; clear HB; have HB := n0_; have BK101 := n1_; have GW101 := n2_; have GE101 := n3_; clear n0_ n1_ n2_ n3_ hB_ hb hbox hg) | ((with_reducible refine gate_dst (N := 2) rfl ?_); refine box_event ?hg (N := 2) ?hd (cs := #[.string (⟨#[]⟩ : ByteArray), .string (⟨#[]⟩ : ByteArray)]) (t := 58) ?hr ?_; (case hd => rfl); (case hg => rfl); (case hr => first | (go_simp; done) | (go_simp; rfl)); intro gb102 hg w3 hbox hb; have n0_ := Aside0.mk (kbI hb BK101); have hB_ := zI hb HB; have n1_ := Aside0.mk (below_step hB_ hb); have n2_ := Aside0.mk (hbox); have n3_ := Aside0.mk (bx0 hg hB_); have n4_ := n3_; have n5_ := Aside0.mk ((by rw [hg]; exact Nat.ne_of_lt (blk_lt (kI BK101)) : gb101 ≠ gb102)); have n6_ := Aside0.mk (Ne.symm n5_.out); clear BK101 HB; have BK101 := n0_; have HB := n1_; have BK102 := n2_; have GW102 := n3_; have GE102 := n4_; have NB101_102 := n5_; have NB102_101 := n6_; clear n0_ n1_ n2_ n3_ n4_ n5_ n6_ hB_ hb hbox hg) | ((with_reducible refine gate_dst (N := 3) rfl ?_); refine box_event ?hg (N := 3) ?hd (cs := #[.string (⟨#[]⟩ : ByteArray), .string (⟨#[]⟩ : ByteArray)]) (t := 58) ?hr ?_; (case hd => rfl); (case hg => rfl); (case hr => first | (go_simp; done) | (go_simp; rfl)); intro gb103 hg w4 hbox hb; have n0_ := Aside0.mk (kbI hb BK101); have n1_ := Aside0.mk (kbI hb BK102); have hB_ := zI hb HB; have n2_ := Aside0.mk (below_step hB_ hb); have n3_ := Aside0.mk (hbox); have n4_ := Aside0.mk (bx0 hg hB_); have n5_ := n4_; have n6_ := Aside0.mk ((by rw [hg]; exact Nat.ne_of_lt (blk_lt (kI BK101)) : gb101 ≠ gb103)); have n7_ := Aside0.mk (Ne.symm n6_.out); have n8_ := Aside0.mk ((by rw [hg]; exact Nat.ne_of_lt (blk_lt (kI BK102)) : gb102 ≠ gb103)); have n9_ := Aside0.mk (Ne.symm n8_.out); clear BK101 BK102 HB; have BK101 := n0_; have BK102 := n1_; have HB := n2_; have BK103 := n3_; have GW103 := n4_; have GE103 := n5_; have NB101_103 := n6_; have NB103_101 := n7_; have NB102_103 := n8_; have NB103_102 := n9_; clear n0_ n1_ n2_ n3_ n4_ n5_ n6_ n7_ n8_ n9_ hB_ hb hbox hg; have hnb5 := NB101_102.out; have hnc5 := NB102_101.out; have hnb6 := NB101_103.out; have hnc6 := NB103_101.out; have hcz7_0 := cz BK101.out 0; have hcz7_1 := cz BK101.out 1; have hfz7_0 := blk_frozen BK101.out 0; have hfz7_1 := blk_frozen BK101.out 1; have hnb8 := NB103_102.out; have hnc8 := NB102_103.out; have hcz9_0 := cz BK103.out 0; have hcz9_1 := cz BK103.out 1; have hfz9_0 := blk_frozen BK103.out 0; have hfz9_1 := blk_frozen BK103.out 1; have hcz10_0 := cz BK102.out 0; have hcz10_1 := cz BK102.out 1; have hfz10_0 := blk_frozen BK102.out 0; have hfz10_1 := blk_frozen BK102.out 1))); (refine bodyPost_ret (results_cell_row rfl _ _ gb102 58 #[.string a0_0, .string a0_1] (0, 0) _ rfl (by (with_reducible repeat (first | refine kN ?_ _ | refine kD ?_ | refine kA ?_ _)); refine blk_put (cs := #[.string a0_0, .string (⟨#[]⟩ : ByteArray)]) ?_ 1 _ rfl; (with_reducible repeat (first | refine kN ?_ _ | refine kD ?_ | refine kA ?_ _)); refine blk_put (cs := #[.string (⟨#[]⟩ : ByteArray), .string (⟨#[]⟩ : ByteArray)]) ?_ 0 _ rfl; (with_reducible repeat (first | refine kN ?_ _ | refine kD ?_ | refine kA ?_ _)); refine blk_far ?_ NB102_103.out _; (with_reducible repeat (first | refine kN ?_ _ | refine kD ?_ | refine kA ?_ _)); refine blk_far ?_ NB102_103.out _; (with_reducible repeat (first | refine kN ?_ _ | refine kD ?_ | refine kA ?_ _)); exact BK102.out) Tryd.underlying58 rfl (by kernel_rfl)) rfl ?_); (exact ⟨by first | rfl | (simp [errW_none, errW_some] <;> rfl) | (simp [*, errW_none, errW_some] <;> rfl), by repeat (first | (with_reducible first | exact HB.out | apply bA | apply bN | apply bD | refine below_set ?_ GE101.out | refine below_set ?_ GE102.out | refine below_set ?_ GE103.out) | exact HB.out)⟩)
/-! ### laws_toAnswerS: function 16 -/
def laws_toAnswerS.l0 : Nat → List (S76) → List (S58) → Int → Option ((List (S58)))
 | 0, _, _, _ => none
 | k + 1, x0, x3, x4 => if x4 < (x0.length : Int) then (if 0 ≤ x4 then ((laws_toAnswer.f ((rd_T76 x0 x4).f0) ((rd_T76 x0 x4).f1)).bind fun bt105 => (if x4 < (x3.length : Int) then (laws_toAnswerS.l0 k x0 (x3.set (x4 : Int).toNat (⟨bt105.1, bt105.2⟩ : S58)) (wrap64 (x4 + 1))) else (none))) else (none)) else (some x3)
def laws_toAnswerS.f (k : Nat) (l0 : List (S76)) : Option ((List (S58))) := if 0 ≤ (l0.length : Int) then (if ((l0.length : Int) : Int).toNat ≤ 8796093022208 then (laws_toAnswerS.l0 k l0 (List.replicate ((l0.length : Int) : Int).toNat z58) 0) else (none)) else (none)
set_option maxHeartbeats 8000000 in
set_option maxRecDepth 100000 in
theorem laws_toAnswerS.calls (k : Nat) (A0 : Option Addr) (c0 : Nat) (l0 : List (S76)) (r : List (S58)) (w : World) (hr0 : Kd.C k76 w A0 l0.length l0) (hc0 : l0.length ≤ c0) (h : laws_toAnswerS.f k l0 = some r) :
  Calls Tryd.prog 16 #[.slice A0 l0.length c0] w fun e w' => ∃ v0_ : Value, e = .returned (v0_) ∧ Kd.R k58 58 w' w.heap.size (fun _ => True) v0_ r ∧ Below w.heap.size w w' := by
 (have hu76 := Tryd.underlying76); (have hu58 := Tryd.underlying58); (have HR0 := Aside0.mk hr0); (have HC0 := Aside0.mk hc0); clear hr0 hc0; (have HB := Aside0.mk (Below.refl w.heap.size w)); (unfold laws_toAnswerS.f at h); (have H := h); clear h; (by_cases c2 : 0 ≤ (l0.length : Int))
 ·rw [if_pos c2] at H
  (have c2b0 := eq_true c2); (have c2b1 := decide_eq_true c2); clear c2; (by_cases c3 : ((l0.length : Int) : Int).toNat ≤ 8796093022208)
  ·rw [if_pos c3] at H
   (have c3b0 := eq_true c3); (have c3b1 := decide_eq_true c3); clear c3; (obtain ⟨y101, hy101⟩ : ∃ y_ : List (S58), y_ = (List.replicate ((l0.length : Int) : Int).toNat z58) := ⟨_, rfl⟩); (replace H : (laws_toAnswerS.l0 k l0 y101 0) = some r := by first | (rw [hy101]; with_reducible exact H) | (have H2_ := (Option.bind_some _ _).symm.trans H; rw [hy101]; with_reducible exact H2_) | (have H2_ := (Option.bind_some _ _).symm.trans H; with_reducible exact H2_) | with_reducible exact H | (rw [hy101]; exact H) | exact H); (have Ny101 := Aside0.mk hy101); clear hy101; (have H' := Aside0.mk H); clear H; (go_enter Tryd.func16, Tryd.ntmps16); (go_wp2_with (first | ((with_reducible refine gate_dst (N := 7) rfl ?_); refine Kd.R_make k58 _ 58 rfl (N := 7) rfl 34 _ _ rfl (l0.length : Int) rfl rfl Tryd.underlying34 (.agg #[(.string ⟨#[]⟩), (.string ⟨#[]⟩)]) 32 info58 rfl (by decide) (by omega) z58 (ok := fun _ => True) (okp := fun _ => True) (k58_mkM _ _ _ z58 ) (fun _ hk => hk) trivial odt (Nat.le_trans (Nat.mul_le_mul_right _ (odt : (l0.length : Int).toNat ≤ 8796093022208)) (by omega)) (Below.refl _ _) (Nat.le_refl _) ?_; intro v102 w4 ho5 hb hg_ hnew_; clear hg_ hnew_; (first | rw [← Ny101.out] at ho5 | (simp only [Int.reduceToNat] at ho5; rw [← Ny101.out] at ho5)); have hB_ := zI hb HB; have n0_ := Aside0.mk (Kd.R_lower ho5 (below_size hB_)); have n1_ := Aside0.mk (below_step hB_ hb); clear HB; have HO103 := n0_; have HB := n1_; clear n0_ n1_ hB_ hb ho5))); (go_loopg [4] k (fun kq v4 w' => ∃ (x3_1 : List (S58)) (x4_1 : Int), v4 = .int .i64 x4_1 ∧ Aside0 (laws_toAnswerS.l0 kq l0 x3_1 x4_1 = some r) ∧ Aside0 (kq ≤ k) ∧ Aside0 (Kd.R k58 58 w' w.heap.size (fun _ => True) v102 x3_1) ∧ Aside0 (Below w.heap.size w w')))
   case atStart => exact ⟨(y101), (0), (by first | rfl | (simp; done) | (simp [*]; done)), H', ⟨Nat.le_refl _⟩, ⟨rI HO103⟩, ⟨eI HB⟩⟩
   case round =>
    (clear H'); (try clear c1); (try clear c2); (try clear c2b0); (try clear c2b1); (try clear p2); (try clear c3); (try clear c3b0); (try clear c3b1); (obtain ⟨x3_1, x4_1, rfl, HA, HK1, HO_3, HB⟩ := hrel)
    cases gk with
    | zero => exact absurd HA.out (by simp [laws_toAnswerS.l0])
    | succ k1 =>
     (have H := HA.out); clear HA; (simp only [laws_toAnswerS.l0] at H); (by_cases c6 : x4_1 < (l0.length : Int))
     ·rw [if_pos c6] at H
      (have c6b0 := decide_eq_true c6); clear c6; (by_cases c7 : 0 ≤ x4_1)
      ·rw [if_pos c7] at H
       (have c7b0 := decide_eq_true c7); clear c7; (replace H := obS H); (obtain ⟨⟨t105, t106⟩, A8, H⟩ := H); (replace H : (if x4_1 < (x3_1.length : Int) then (laws_toAnswerS.l0 k1 l0 (x3_1.set (x4_1 : Int).toNat (⟨t105, t106⟩ : S58)) (wrap64 (x4_1 + 1))) else (none)) = some r := H); (by_cases c9 : x4_1 < (x3_1.length : Int))
       ·rw [if_pos c9] at H
        (have c9b0 := decide_eq_true c9); clear c9; (obtain ⟨y107, hy107⟩ : ∃ y_ : List (S58), y_ = (x3_1.set (x4_1 : Int).toNat (⟨t105, t106⟩ : S58)) := ⟨_, rfl⟩); (replace H : (laws_toAnswerS.l0 k1 l0 y107 (wrap64 (x4_1 + 1))) = some r := by first | (rw [hy107]; with_reducible exact H) | (have H2_ := (Option.bind_some _ _).symm.trans H; rw [hy107]; with_reducible exact H2_) | (have H2_ := (Option.bind_some _ _).symm.trans H; with_reducible exact H2_) | with_reducible exact H | (rw [hy107]; exact H) | exact H); (have Ny107 := Aside0.mk hy107); clear hy107; (have H' := Aside0.mk H); clear H; (have p104 : 0 ≤ (x4_1 : Int) := odt); (have q104 : x4_1 < (l0.length : Int) := odt); (obtain ⟨ad104, e104, hx104_0, hx104_1⟩ := at_T76 HR0.out x4_1 p104 q104); (cases e104); (replace hx104_0 := hcI HB hx104_0); (replace hx104_1 := hcI HB hx104_1); (replace p104 := eq_true p104); (replace q104 := eq_true q104); (go_wp2_with (first | ((with_reducible refine gate_callee (f := 54) rfl ?_); refine gL (some 20) Tryd.func54 #[.agg #[.string ((rd_T76 l0 x4_1).f0), .string ((rd_T76 l0 x4_1).f1)]] ?_; (with_reducible refine (laws_toAnswer.calls ((rd_T76 l0 x4_1).f0) ((rd_T76 l0 x4_1).f1) t105 t106 _ A8.out).mono ?_); rintro e w11 ⟨rfl, hb⟩; refine ⟨_, rfl, ?_⟩; have n0_ := Aside0.mk (rbI hb HO_3); have n1_ := Aside0.mk (sI hb HB); clear HO_3 HB; have HO_3 := n0_; have HB := n1_; clear n0_ n1_; (try clear hb); (try clear hb2); (try clear hk); (try clear hi); have p10 : 0 ≤ (x4_1 : Int) := odt; have q10 : (x4_1 : Int) < ((x3_1.length : Int) : Int) := odt; obtain ⟨go10, co10, eo10, gb10, gl10, cl10, HG10⟩ := Kd.R_form HO_3.out (by omega); (first | cases eo10 | (injection eo10 with ea_ en_ ec_; (first | subst ea_ | (injection ea_ with ea_; subst ea_)); subst ec_; clear en_)); have GB10 := Aside0.mk gb10; have GG10 := Aside0.mk HG10; clear gb10 gl10 HG10; obtain ⟨ce10, hcl10, hM10, hcc10, hfr10⟩ := Kd.R_elem HO_3.out z58 (x4_1 : Int) p10 q10; obtain rfl := k58_openM hM10; have hx10_0 : w11.cell? ⟨go10, (x4_1 : Int).toNat * 2, none⟩ = some (.string ((rd_T58 x3_1 x4_1).f0)) := hcc10 0 _ rfl; have hx10_1 : w11.cell? ⟨go10, (x4_1 : Int).toNat * 2 + 1, none⟩ = some (.string ((rd_T58 x3_1 x4_1).f1)) := hcc10 1 _ rfl; have hf10_0 : w11.frozen? ⟨go10, (x4_1 : Int).toNat * 2, none⟩ = false := hfr10 0; have hf10_1 : w11.frozen? ⟨go10, (x4_1 : Int).toNat * 2 + 1, none⟩ = false := hfr10 1; clear hcl10 hcc10 hfr10 hM10; replace p10 := eq_true p10; replace q10 := eq_true q10; have HX12 := Aside0.mk (show Kd.R k58 58 w11 w.heap.size (fun _ => True) (.slice (some ⟨go10, 0, none⟩) x3_1.length co10) x3_1 from (rI HO_3)); obtain ⟨ce12, hcl12, hM12, hcc12, hfr12⟩ := Kd.R_elem HX12.out z58 (x4_1 : Int) odt (by have h_ : (x4_1 : Int) < ((x3_1.length : Int) : Int) := odt; first | exact h_ | (have e_ := (Kd.R_reads' HO_3.out).1; omega) | simpa using h_); obtain rfl := k58_openM hM12; have HP12 := Kd.R_seg HX12.out (x4_1 : Int) odt (by have h_ : (x4_1 : Int) < ((x3_1.length : Int) : Int) := odt; first | exact h_ | (have e_ := (Kd.R_reads' HO_3.out).1; omega) | simpa using h_) (seg := [.string t105, .string t106]) (j := 0) hcl12 hcc12 (show 2 ≤ 2 from by decide) (x' := (⟨t105, t106⟩ : S58)) (k58_mkM _ _ _ (⟨t105, t106⟩ : S58) ) (fun _ hk => hk); have hx12_0 := hcc12 0 _ rfl; (try simp only [show (k58).sz = 2 from rfl, Nat.mul_one, Nat.add_zero] at hx12_0); have hf12_0 := hfr12 0; (try simp only [show (k58).sz = 2 from rfl, Nat.mul_one, Nat.add_zero] at hf12_0); have hx12_1 := hcc12 1 _ rfl; (try simp only [show (k58).sz = 2 from rfl, Nat.mul_one, Nat.add_zero] at hx12_1); have hf12_1 := hfr12 1; (try simp only [show (k58).sz = 2 from rfl, Nat.mul_one, Nat.add_zero] at hf12_1); clear hcl12 hcc12 hfr12 hM12) | ((with_reducible refine gate_store (t := 58) (p := 21) rfl ?_); refine store_event (t := 58) (p := 21) (v := ?vo_w13) (w1 := ((w11.setCell ⟨go10, (x4_1 : Int).toNat * 2, none⟩ (.string t105)).setCell ⟨go10, (x4_1 : Int).toNat * 2 + 1, none⟩ (.string t106))) ?hg ?ho ?hn ?hr ?_; (case ho => rfl); (case hg => rfl); (case hn => rfl); (case hr => first | (go_simp; done) | (go_simp; rfl)); intro w13 hw; have hg : w11.grownBy w13 (some go10) := (by rw [hw]; exact HP12.2); have hp_ : Kd.R k58 58 w13 w.heap.size (fun _ => True) (.slice (some ⟨go10, 0, none⟩) x3_1.length co10) y107 := (by rw [hw, Ny107.out]; exact HP12.1); clear HP12; have n0_ := Aside0.mk (hp_); have n1_ := Aside0.mk ((by rw [hw]; exact below_set (below_set (HB.out) GB10.out) GB10.out : Below w.heap.size w w13)); clear HO_3 HB; have HO_3 := n0_; have HB := n1_; clear n0_ n1_ hg hw hp_))); go_roundg k1
        case measure => have := HK1.out; omega
        case rel => exact ⟨(y107), (wrap64 (x4_1 + 1)), (by first | rfl | (simp; done) | (simp [*]; done)), H', ⟨by have := HK1.out; omega⟩, ⟨rI HO_3⟩, ⟨eI HB⟩⟩
       ·rw [if_neg c9] at H
        exact absurd H (by simp)
      ·rw [if_neg c7] at H
       exact absurd H (by simp)
     ·rw [if_neg c6] at H
      (have c6b0 := decide_eq_false c6); clear c6; (obtain rfl := Option.some.inj H); (go_wp2); go_ret; (exact ⟨_, by first | rfl | (simp [errW_none, errW_some] <;> rfl) | (simp [*, errW_none, errW_some] <;> rfl), rI HO_3, eI HB⟩)
  ·rw [if_neg c3] at H
   exact absurd H (by simp)
 ·rw [if_neg c2] at H
  exact absurd H (by simp)
/-! ### impl_within: function 104 -/
def impl_within.f (a0 : Int) (a1 : Int) (a2 : Int) : Option (Bool) := if a0 ≥ a1 then (some (decide (a0 ≤ a2))) else (some false)
set_option maxHeartbeats 8000000 in
set_option maxRecDepth 100000 in
theorem impl_within.calls (a0 : Int) (a1 : Int) (a2 : Int) (r : Bool) (w : World) (h : impl_within.f a0 a1 a2 = some r) :
  Calls Tryd.prog 104 #[.int .i64 a0, .int .i64 a1, .int .i64 a2] w fun e w' => e = .returned (.bool r) ∧ Drawn0 w w' := by
 (unfold impl_within.f at h); (have H := h); clear h; (by_cases c4 : a0 ≥ a1); (· (rw [if_pos c4] at H); (have c4b0 : decide (a1 ≤ a0) = true := decide_eq_true c4); clear c4; (obtain rfl := Option.some.inj H); (go_enter Tryd.func104, Tryd.ntmps104); (go_wp2); go_ret; (exact ⟨by first | rfl | (simp; done) | (simp [*]; done), by repeat (first | exact Drawn0.refl _ | apply Drawn0.step)⟩)); (· (rw [if_neg c4] at H); (have c4b0 : decide (a1 ≤ a0) = false := decide_eq_false c4); clear c4; (obtain rfl := Option.some.inj H); (go_enter Tryd.func104, Tryd.ntmps104); (go_wp2); go_ret; (exact ⟨by first | rfl | (simp; done) | (simp [*]; done), by repeat (first | exact Drawn0.refl _ | apply Drawn0.step)⟩))
/-! ### impl_isName: function 103 -/
def impl_isName.l0 : Nat → ByteArray → Int → Int → Option (Bool)
 | 0, _, _, _ => none
 | k + 1, x0, x7, x8 => if x8 < x7 then (if 0 ≤ x8 then (if x8 < (x0.size : Int) then (if (bt x0 x8) ≥ 97 then (if (bt x0 x8) ≥ 48 then (if ((bt x0 x8) ≤ 122) then (impl_isName.l0 k x0 x7 (wrap64 (x8 + 1))) else (if x8 = 0 then (some false) else (if ((bt x0 x8) ≤ 57) then (impl_isName.l0 k x0 x7 (wrap64 (x8 + 1))) else (some false)))) else (if ((bt x0 x8) ≤ 122) then (impl_isName.l0 k x0 x7 (wrap64 (x8 + 1))) else (if x8 = 0 then (some false) else (some false)))) else (if (bt x0 x8) ≥ 48 then (if x8 = 0 then (some false) else (if ((bt x0 x8) ≤ 57) then (impl_isName.l0 k x0 x7 (wrap64 (x8 + 1))) else (some false))) else (if x8 = 0 then (some false) else (some false)))) else (none)) else (none)) else ((impl_within.f (x0.size : Int) 1 8).bind fun t101 => (some t101))
def impl_isName.f (k : Nat) (a0 : ByteArray) : Option (Bool) := impl_isName.l0 k a0 (a0.size : Int) 0
set_option maxHeartbeats 8000000 in
set_option maxRecDepth 100000 in
theorem impl_isName.calls (k : Nat) (a0 : ByteArray) (r : Bool) (w : World) (h : impl_isName.f k a0 = some r) :
  Calls Tryd.prog 103 #[.string a0] w fun e w' => e = .returned (.bool r) ∧ Drawn0 w w' := by
 (unfold impl_isName.f at h); (have H := h); clear h; (have H' := Aside0.mk H); clear H; (go_enter Tryd.func103, Tryd.ntmps103); (go_wp2); (go_loopg [8] k (fun kq v8 w' => ∃ (x8_1 : Int), v8 = .int .i64 x8_1 ∧ Aside0 (impl_isName.l0 kq a0 (a0.size : Int) x8_1 = some r) ∧ Aside0 (kq ≤ k) ∧ Drawn0 w w'))
 case atStart => exact ⟨(0), (by first | rfl | (simp; done) | (simp [*]; done)), H', ⟨Nat.le_refl _⟩, by repeat (first | exact Drawn0.refl _ | apply Drawn0.step)⟩
 case round =>
  (clear H'); (try clear c1); (obtain ⟨x8_1, rfl, HA, HK1, ⟨m1, rfl⟩⟩ := hrel)
  cases gk with
  | zero => exact absurd HA.out (by simp [impl_isName.l0])
  | succ k1 =>
   (have H := HA.out); clear HA; (simp only [impl_isName.l0] at H); (by_cases c2 : x8_1 < (a0.size : Int))
   ·rw [if_pos c2] at H
    (have c2b0 := decide_eq_true c2); clear c2; (by_cases c3 : 0 ≤ x8_1)
    ·rw [if_pos c3] at H
     (have c3b0 := decide_eq_true c3); clear c3; (by_cases c4 : x8_1 < (a0.size : Int))
     ·rw [if_pos c4] at H
      (have c4b0 := decide_eq_true c4); clear c4; (by_cases c6 : (bt a0 x8_1) ≥ 97)
      ·rw [if_pos c6] at H
       (have c6b0 : decide (97 ≤ (bt a0 x8_1)) = true := decide_eq_true c6); clear c6; (by_cases c9 : (bt a0 x8_1) ≥ 48)
       ·rw [if_pos c9] at H
        (have c9b0 : decide (48 ≤ (bt a0 x8_1)) = true := decide_eq_true c9); clear c9; (by_cases c11 : ((bt a0 x8_1) ≤ 122))
        ·rw [if_pos c11] at H
         (have c11b0 : decide ((bt a0 x8_1) ≤ 122) = true := decide_eq_true c11); clear c11; (have H' := Aside0.mk H); clear H; (have p5 : 0 ≤ (x8_1 : Int) := odt); (have q5 : x8_1 < (a0.size : Int) := odt); (have hx5 := bt_at a0 x8_1); (replace p5 := eq_true p5); (replace q5 := eq_true q5); (have p7 : 0 ≤ (x8_1 : Int) := odt); (have q7 : x8_1 < (a0.size : Int) := odt); (have hx7 := bt_at a0 x8_1); (replace p7 := eq_true p7); (replace q7 := eq_true q7); (have p8 : 0 ≤ (x8_1 : Int) := odt); (have q8 : x8_1 < (a0.size : Int) := odt); (have hx8 := bt_at a0 x8_1); (replace p8 := eq_true p8); (replace q8 := eq_true q8); (have p10 : 0 ≤ (x8_1 : Int) := odt); (have q10 : x8_1 < (a0.size : Int) := odt); (have hx10 := bt_at a0 x8_1); (replace p10 := eq_true p10); (replace q10 := eq_true q10); (go_wp2); go_roundg k1
         case measure => have := HK1.out; omega
         case rel => exact ⟨(wrap64 (x8_1 + 1)), (by first | rfl | (simp; done) | (simp [*]; done)), H', ⟨by have := HK1.out; omega⟩, by repeat (first | exact Drawn0.refl _ | apply Drawn0.step)⟩
        ·rw [if_neg c11] at H
         (have c11b0 : decide ((bt a0 x8_1) ≤ 122) = false := decide_eq_false c11); clear c11; (by_cases c12 : x8_1 = 0)
         ·rw [if_pos c12] at H
          (have c12b0 : (x8_1 == 0) = true := beq_iff_eq.mpr c12); (have c12b1 : (x8_1 != 0) = false := bne_eq_false_iff_eq.mpr c12); clear c12; (obtain rfl := Option.some.inj H); (have p5 : 0 ≤ (x8_1 : Int) := odt); (have q5 : x8_1 < (a0.size : Int) := odt); (have hx5 := bt_at a0 x8_1); (replace p5 := eq_true p5); (replace q5 := eq_true q5); (have p7 : 0 ≤ (x8_1 : Int) := odt); (have q7 : x8_1 < (a0.size : Int) := odt); (have hx7 := bt_at a0 x8_1); (replace p7 := eq_true p7); (replace q7 := eq_true q7); (have p8 : 0 ≤ (x8_1 : Int) := odt); (have q8 : x8_1 < (a0.size : Int) := odt); (have hx8 := bt_at a0 x8_1); (replace p8 := eq_true p8); (replace q8 := eq_true q8); (have p10 : 0 ≤ (x8_1 : Int) := odt); (have q10 : x8_1 < (a0.size : Int) := odt); (have hx10 := bt_at a0 x8_1); (replace p10 := eq_true p10); (replace q10 := eq_true q10); (go_wp2); go_ret; (exact ⟨by first | rfl | (simp; done) | (simp [*]; done), by repeat (first | exact Drawn0.refl _ | apply Drawn0.step)⟩)
         ·rw [if_neg c12] at H
          (have c12b0 : (x8_1 == 0) = false := beq_eq_false_iff_ne.mpr c12); (have c12b1 : (x8_1 != 0) = true := bne_iff_ne.mpr c12); (by_cases c13 : ((bt a0 x8_1) ≤ 57))
          ·rw [if_pos c13] at H
           (have c13b0 : decide ((bt a0 x8_1) ≤ 57) = true := decide_eq_true c13); clear c13; (have H' := Aside0.mk H); clear H; (have p5 : 0 ≤ (x8_1 : Int) := odt); (have q5 : x8_1 < (a0.size : Int) := odt); (have hx5 := bt_at a0 x8_1); (replace p5 := eq_true p5); (replace q5 := eq_true q5); (have p7 : 0 ≤ (x8_1 : Int) := odt); (have q7 : x8_1 < (a0.size : Int) := odt); (have hx7 := bt_at a0 x8_1); (replace p7 := eq_true p7); (replace q7 := eq_true q7); (have p8 : 0 ≤ (x8_1 : Int) := odt); (have q8 : x8_1 < (a0.size : Int) := odt); (have hx8 := bt_at a0 x8_1); (replace p8 := eq_true p8); (replace q8 := eq_true q8); (have p10 : 0 ≤ (x8_1 : Int) := odt); (have q10 : x8_1 < (a0.size : Int) := odt); (have hx10 := bt_at a0 x8_1); (replace p10 := eq_true p10); (replace q10 := eq_true q10); (go_wp2); go_roundg k1
           case measure => have := HK1.out; omega
           case rel => exact ⟨(wrap64 (x8_1 + 1)), (by first | rfl | (simp; done) | (simp [*]; done)), H', ⟨by have := HK1.out; omega⟩, by repeat (first | exact Drawn0.refl _ | apply Drawn0.step)⟩
          ·rw [if_neg c13] at H
           (have c13b0 : decide ((bt a0 x8_1) ≤ 57) = false := decide_eq_false c13); clear c13; (obtain rfl := Option.some.inj H); (have p5 : 0 ≤ (x8_1 : Int) := odt); (have q5 : x8_1 < (a0.size : Int) := odt); (have hx5 := bt_at a0 x8_1); (replace p5 := eq_true p5); (replace q5 := eq_true q5); (have p7 : 0 ≤ (x8_1 : Int) := odt); (have q7 : x8_1 < (a0.size : Int) := odt); (have hx7 := bt_at a0 x8_1); (replace p7 := eq_true p7); (replace q7 := eq_true q7); (have p8 : 0 ≤ (x8_1 : Int) := odt); (have q8 : x8_1 < (a0.size : Int) := odt); (have hx8 := bt_at a0 x8_1); (replace p8 := eq_true p8); (replace q8 := eq_true q8); (have p10 : 0 ≤ (x8_1 : Int) := odt); (have q10 : x8_1 < (a0.size : Int) := odt); (have hx10 := bt_at a0 x8_1); (replace p10 := eq_true p10); (replace q10 := eq_true q10); (go_wp2); go_ret; (exact ⟨by first | rfl | (simp; done) | (simp [*]; done), by repeat (first | exact Drawn0.refl _ | apply Drawn0.step)⟩)
       ·rw [if_neg c9] at H
        (have c9b0 : decide (48 ≤ (bt a0 x8_1)) = false := decide_eq_false c9); clear c9; (by_cases c14 : ((bt a0 x8_1) ≤ 122))
        ·rw [if_pos c14] at H
         (have c14b0 : decide ((bt a0 x8_1) ≤ 122) = true := decide_eq_true c14); clear c14; (have H' := Aside0.mk H); clear H; (have p5 : 0 ≤ (x8_1 : Int) := odt); (have q5 : x8_1 < (a0.size : Int) := odt); (have hx5 := bt_at a0 x8_1); (replace p5 := eq_true p5); (replace q5 := eq_true q5); (have p7 : 0 ≤ (x8_1 : Int) := odt); (have q7 : x8_1 < (a0.size : Int) := odt); (have hx7 := bt_at a0 x8_1); (replace p7 := eq_true p7); (replace q7 := eq_true q7); (have p8 : 0 ≤ (x8_1 : Int) := odt); (have q8 : x8_1 < (a0.size : Int) := odt); (have hx8 := bt_at a0 x8_1); (replace p8 := eq_true p8); (replace q8 := eq_true q8); (go_wp2); go_roundg k1
         case measure => have := HK1.out; omega
         case rel => exact ⟨(wrap64 (x8_1 + 1)), (by first | rfl | (simp; done) | (simp [*]; done)), H', ⟨by have := HK1.out; omega⟩, by repeat (first | exact Drawn0.refl _ | apply Drawn0.step)⟩
        ·rw [if_neg c14] at H
         (have c14b0 : decide ((bt a0 x8_1) ≤ 122) = false := decide_eq_false c14); clear c14; (by_cases c15 : x8_1 = 0)
         ·rw [if_pos c15] at H
          (have c15b0 : (x8_1 == 0) = true := beq_iff_eq.mpr c15); (have c15b1 : (x8_1 != 0) = false := bne_eq_false_iff_eq.mpr c15); clear c15; (obtain rfl := Option.some.inj H); (have p5 : 0 ≤ (x8_1 : Int) := odt); (have q5 : x8_1 < (a0.size : Int) := odt); (have hx5 := bt_at a0 x8_1); (replace p5 := eq_true p5); (replace q5 := eq_true q5); (have p7 : 0 ≤ (x8_1 : Int) := odt); (have q7 : x8_1 < (a0.size : Int) := odt); (have hx7 := bt_at a0 x8_1); (replace p7 := eq_true p7); (replace q7 := eq_true q7); (have p8 : 0 ≤ (x8_1 : Int) := odt); (have q8 : x8_1 < (a0.size : Int) := odt); (have hx8 := bt_at a0 x8_1); (replace p8 := eq_true p8); (replace q8 := eq_true q8); (go_wp2); go_ret; (exact ⟨by first | rfl | (simp; done) | (simp [*]; done), by repeat (first | exact Drawn0.refl _ | apply Drawn0.step)⟩)
         ·rw [if_neg c15] at H
          (have c15b0 : (x8_1 == 0) = false := beq_eq_false_iff_ne.mpr c15); (have c15b1 : (x8_1 != 0) = true := bne_iff_ne.mpr c15); (obtain rfl := Option.some.inj H); (have p5 : 0 ≤ (x8_1 : Int) := odt); (have q5 : x8_1 < (a0.size : Int) := odt); (have hx5 := bt_at a0 x8_1); (replace p5 := eq_true p5); (replace q5 := eq_true q5); (have p7 : 0 ≤ (x8_1 : Int) := odt); (have q7 : x8_1 < (a0.size : Int) := odt); (have hx7 := bt_at a0 x8_1); (replace p7 := eq_true p7); (replace q7 := eq_true q7); (have p8 : 0 ≤ (x8_1 : Int) := odt); (have q8 : x8_1 < (a0.size : Int) := odt); (have hx8 := bt_at a0 x8_1); (replace p8 := eq_true p8); (replace q8 := eq_true q8); (go_wp2); go_ret; (exact ⟨by first | rfl | (simp; done) | (simp [*]; done), by repeat (first | exact Drawn0.refl _ | apply Drawn0.step)⟩)
      ·rw [if_neg c6] at H
       (have c6b0 : decide (97 ≤ (bt a0 x8_1)) = false := decide_eq_false c6); clear c6; (by_cases c17 : (bt a0 x8_1) ≥ 48)
       ·rw [if_pos c17] at H
        (have c17b0 : decide (48 ≤ (bt a0 x8_1)) = true := decide_eq_true c17); clear c17; (by_cases c19 : x8_1 = 0)
        ·rw [if_pos c19] at H
         (have c19b0 : (x8_1 == 0) = true := beq_iff_eq.mpr c19); (have c19b1 : (x8_1 != 0) = false := bne_eq_false_iff_eq.mpr c19); clear c19; (obtain rfl := Option.some.inj H); (have p5 : 0 ≤ (x8_1 : Int) := odt); (have q5 : x8_1 < (a0.size : Int) := odt); (have hx5 := bt_at a0 x8_1); (replace p5 := eq_true p5); (replace q5 := eq_true q5); (have p16 : 0 ≤ (x8_1 : Int) := odt); (have q16 : x8_1 < (a0.size : Int) := odt); (have hx16 := bt_at a0 x8_1); (replace p16 := eq_true p16); (replace q16 := eq_true q16); (have p18 : 0 ≤ (x8_1 : Int) := odt); (have q18 : x8_1 < (a0.size : Int) := odt); (have hx18 := bt_at a0 x8_1); (replace p18 := eq_true p18); (replace q18 := eq_true q18); (go_wp2); go_ret; (exact ⟨by first | rfl | (simp; done) | (simp [*]; done), by repeat (first | exact Drawn0.refl _ | apply Drawn0.step)⟩)
        ·rw [if_neg c19] at H
         (have c19b0 : (x8_1 == 0) = false := beq_eq_false_iff_ne.mpr c19); (have c19b1 : (x8_1 != 0) = true := bne_iff_ne.mpr c19); (by_cases c20 : ((bt a0 x8_1) ≤ 57))
         ·rw [if_pos c20] at H
          (have c20b0 : decide ((bt a0 x8_1) ≤ 57) = true := decide_eq_true c20); clear c20; (have H' := Aside0.mk H); clear H; (have p5 : 0 ≤ (x8_1 : Int) := odt); (have q5 : x8_1 < (a0.size : Int) := odt); (have hx5 := bt_at a0 x8_1); (replace p5 := eq_true p5); (replace q5 := eq_true q5); (have p16 : 0 ≤ (x8_1 : Int) := odt); (have q16 : x8_1 < (a0.size : Int) := odt); (have hx16 := bt_at a0 x8_1); (replace p16 := eq_true p16); (replace q16 := eq_true q16); (have p18 : 0 ≤ (x8_1 : Int) := odt); (have q18 : x8_1 < (a0.size : Int) := odt); (have hx18 := bt_at a0 x8_1); (replace p18 := eq_true p18); (replace q18 := eq_true q18); (go_wp2); go_roundg k1
          case measure => have := HK1.out; omega
          case rel => exact ⟨(wrap64 (x8_1 + 1)), (by first | rfl | (simp; done) | (simp [*]; done)), H', ⟨by have := HK1.out; omega⟩, by repeat (first | exact Drawn0.refl _ | apply Drawn0.step)⟩
         ·rw [if_neg c20] at H
          (have c20b0 : decide ((bt a0 x8_1) ≤ 57) = false := decide_eq_false c20); clear c20; (obtain rfl := Option.some.inj H); (have p5 : 0 ≤ (x8_1 : Int) := odt); (have q5 : x8_1 < (a0.size : Int) := odt); (have hx5 := bt_at a0 x8_1); (replace p5 := eq_true p5); (replace q5 := eq_true q5); (have p16 : 0 ≤ (x8_1 : Int) := odt); (have q16 : x8_1 < (a0.size : Int) := odt); (have hx16 := bt_at a0 x8_1); (replace p16 := eq_true p16); (replace q16 := eq_true q16); (have p18 : 0 ≤ (x8_1 : Int) := odt); (have q18 : x8_1 < (a0.size : Int) := odt); (have hx18 := bt_at a0 x8_1); (replace p18 := eq_true p18); (replace q18 := eq_true q18); (go_wp2); go_ret; (exact ⟨by first | rfl | (simp; done) | (simp [*]; done), by repeat (first | exact Drawn0.refl _ | apply Drawn0.step)⟩)
       ·rw [if_neg c17] at H
        (have c17b0 : decide (48 ≤ (bt a0 x8_1)) = false := decide_eq_false c17); clear c17; (by_cases c21 : x8_1 = 0)
        ·rw [if_pos c21] at H
         (have c21b0 : (x8_1 == 0) = true := beq_iff_eq.mpr c21); (have c21b1 : (x8_1 != 0) = false := bne_eq_false_iff_eq.mpr c21); clear c21; (obtain rfl := Option.some.inj H); (have p5 : 0 ≤ (x8_1 : Int) := odt); (have q5 : x8_1 < (a0.size : Int) := odt); (have hx5 := bt_at a0 x8_1); (replace p5 := eq_true p5); (replace q5 := eq_true q5); (have p16 : 0 ≤ (x8_1 : Int) := odt); (have q16 : x8_1 < (a0.size : Int) := odt); (have hx16 := bt_at a0 x8_1); (replace p16 := eq_true p16); (replace q16 := eq_true q16); (go_wp2); go_ret; (exact ⟨by first | rfl | (simp; done) | (simp [*]; done), by repeat (first | exact Drawn0.refl _ | apply Drawn0.step)⟩)
        ·rw [if_neg c21] at H
         (have c21b0 : (x8_1 == 0) = false := beq_eq_false_iff_ne.mpr c21); (have c21b1 : (x8_1 != 0) = true := bne_iff_ne.mpr c21); (obtain rfl := Option.some.inj H); (have p5 : 0 ≤ (x8_1 : Int) := odt); (have q5 : x8_1 < (a0.size : Int) := odt); (have hx5 := bt_at a0 x8_1); (replace p5 := eq_true p5); (replace q5 := eq_true q5); (have p16 : 0 ≤ (x8_1 : Int) := odt); (have q16 : x8_1 < (a0.size : Int) := odt); (have hx16 := bt_at a0 x8_1); (replace p16 := eq_true p16); (replace q16 := eq_true q16); (go_wp2); go_ret; (exact ⟨by first | rfl | (simp; done) | (simp [*]; done), by repeat (first | exact Drawn0.refl _ | apply Drawn0.step)⟩)
     ·rw [if_neg c4] at H
      exact absurd H (by simp)
    ·rw [if_neg c3] at H
     exact absurd H (by simp)
   ·rw [if_neg c2] at H
    (have c2b0 := decide_eq_false c2); clear c2; (replace H := obS H); (obtain ⟨t101, A22, H⟩ := H); (obtain rfl := Option.some.inj H); (go_wp2_with (first | ((with_reducible refine gate_callee (f := 104) rfl ?_); refine gL (some 44) Tryd.func104 #[.int .i64 (a0.size : Int), .int .i64 1, .int .i64 8] ?_; (with_reducible refine (impl_within.calls (a0.size : Int) 1 8 t101 _ A22.out).mono ?_); rintro e w' ⟨rfl, ⟨nd, rfl⟩⟩; refine ⟨_, rfl, ?_⟩))); go_ret; (exact ⟨by first | rfl | (simp; done) | (simp [*]; done), by repeat (first | exact Drawn0.refl _ | apply Drawn0.step)⟩)
/-! ### slices_Index_string_string: function 84 -/
def slices_Index_string_string.l0 : Nat → List ByteArray → ByteArray → Int → Int → Option (Int)
 | 0, _, _, _, _ => none
 | k + 1, x0, x1, x7, x8 => if x8 < x7 then (if 0 ≤ x8 then (if x8 < (x0.length : Int) then (if x1.toList = (rdOf ByteArray.empty x0 x8).toList then (some x8) else (slices_Index_string_string.l0 k x0 x1 x7 (wrap64 (x8 + 1)))) else (none)) else (none)) else (some (-1))
def slices_Index_string_string.f (k : Nat) (l0 : List ByteArray) (a1 : ByteArray) : Option (Int) := slices_Index_string_string.l0 k l0 a1 (l0.length : Int) 0
set_option maxHeartbeats 8000000 in
set_option maxRecDepth 100000 in
theorem slices_Index_string_string.calls (k : Nat) (A0 : Option Addr) (c0 : Nat) (l0 : List ByteArray) (a1 : ByteArray) (r : Int) (w : World) (hr0 : Kd.C Kd.string w A0 l0.length l0) (hc0 : l0.length ≤ c0) (h : slices_Index_string_string.f k l0 a1 = some r) :
  Calls Tryd.prog 84 #[.slice A0 l0.length c0, .string a1] w fun e w' => e = .returned (.int .i64 r) ∧ Drawn0 w w' := by
 (have HR0 := Aside0.mk hr0); (have HC0 := Aside0.mk hc0); clear hr0 hc0; (unfold slices_Index_string_string.f at h); (have H := h); clear h; (have H' := Aside0.mk H); clear H; (go_enter Tryd.func84, Tryd.ntmps84); (go_wp2); (go_loopg [8] k (fun kq v8 w' => ∃ (x8_1 : Int), v8 = .int .i64 x8_1 ∧ Aside0 (slices_Index_string_string.l0 kq l0 a1 (l0.length : Int) x8_1 = some r) ∧ Aside0 (kq ≤ k) ∧ Drawn0 w w'))
 case atStart => exact ⟨(0), (by first | rfl | (simp; done) | (simp [*]; done)), H', ⟨Nat.le_refl _⟩, by repeat (first | exact Drawn0.refl _ | apply Drawn0.step)⟩
 case round =>
  (clear H'); (try clear p2); (obtain ⟨x8_1, rfl, HA, HK1, ⟨m1, rfl⟩⟩ := hrel)
  cases gk with
  | zero => exact absurd HA.out (by simp [slices_Index_string_string.l0])
  | succ k1 =>
   (have H := HA.out); clear HA; (simp only [slices_Index_string_string.l0] at H); (by_cases c3 : x8_1 < (l0.length : Int))
   ·rw [if_pos c3] at H
    (have c3b0 := decide_eq_true c3); clear c3; (by_cases c4 : 0 ≤ x8_1)
    ·rw [if_pos c4] at H
     (have c4b0 := decide_eq_true c4); clear c4; (by_cases c5 : x8_1 < (l0.length : Int))
     ·rw [if_pos c5] at H
      (have c5b0 := decide_eq_true c5); clear c5; (by_cases c6 : a1.toList = (rdOf ByteArray.empty l0 x8_1).toList)
      ·rw [if_pos c6] at H
       (have c6b0 : (a1.toList == (rdOf ByteArray.empty l0 x8_1).toList) = true := beq_iff_eq.mpr c6); (have c6b1 : (a1.toList != (rdOf ByteArray.empty l0 x8_1).toList) = false := bne_eq_false_iff_eq.mpr c6); clear c6; (obtain rfl := Option.some.inj H); (have p101 : 0 ≤ (x8_1 : Int) := odt); (have q101 : x8_1 < (l0.length : Int) := odt); (obtain ⟨ad101, e101, hx101_0⟩ := Kd.at_string HR0.out x8_1 p101 q101); (cases e101); (replace p101 := eq_true p101); (replace q101 := eq_true q101); (go_wp2); go_ret; (exact ⟨by first | rfl | (simp; done) | (simp [*]; done), by repeat (first | exact Drawn0.refl _ | apply Drawn0.step)⟩)
      ·rw [if_neg c6] at H
       (have c6b0 : (a1.toList == (rdOf ByteArray.empty l0 x8_1).toList) = false := beq_eq_false_iff_ne.mpr c6); (have c6b1 : (a1.toList != (rdOf ByteArray.empty l0 x8_1).toList) = true := bne_iff_ne.mpr c6); (have H' := Aside0.mk H); clear H; (have p101 : 0 ≤ (x8_1 : Int) := odt); (have q101 : x8_1 < (l0.length : Int) := odt); (obtain ⟨ad101, e101, hx101_0⟩ := Kd.at_string HR0.out x8_1 p101 q101); (cases e101); (replace p101 := eq_true p101); (replace q101 := eq_true q101); (go_wp2); go_roundg k1
       case measure => have := HK1.out; omega
       case rel => exact ⟨(wrap64 (x8_1 + 1)), (by first | rfl | (simp; done) | (simp [*]; done)), H', ⟨by have := HK1.out; omega⟩, by repeat (first | exact Drawn0.refl _ | apply Drawn0.step)⟩
     ·rw [if_neg c5] at H
      exact absurd H (by simp)
    ·rw [if_neg c4] at H
     exact absurd H (by simp)
   ·rw [if_neg c3] at H
    (have c3b0 := decide_eq_false c3); clear c3; (obtain rfl := Option.some.inj H); (go_wp2); go_ret; (exact ⟨by first | rfl | (simp; done) | (simp [*]; done), by repeat (first | exact Drawn0.refl _ | apply Drawn0.step)⟩)
/-! ### slices_Contains_string_string: function 47 -/
def slices_Contains_string_string.f (k : Nat) (l0 : List ByteArray) (a1 : ByteArray) : Option (Bool) := (slices_Index_string_string.f k l0 a1).bind fun t101 => (some (decide (t101 ≥ 0)))
set_option maxHeartbeats 8000000 in
set_option maxRecDepth 100000 in
theorem slices_Contains_string_string.calls (k : Nat) (A0 : Option Addr) (c0 : Nat) (l0 : List ByteArray) (a1 : ByteArray) (r : Bool) (w : World) (hr0 : Kd.C Kd.string w A0 l0.length l0) (hc0 : l0.length ≤ c0) (h : slices_Contains_string_string.f k l0 a1 = some r) :
  Calls Tryd.prog 47 #[.slice A0 l0.length c0, .string a1] w fun e w' => e = .returned (.bool r) ∧ Drawn0 w w' := by
 (have HR0 := Aside0.mk hr0); (have HC0 := Aside0.mk hc0); clear hr0 hc0; (unfold slices_Contains_string_string.f at h); (have H := h); clear h; (replace H := obS H); (obtain ⟨t101, A3, H⟩ := H); (obtain rfl := Option.some.inj H); (go_enter Tryd.func47, Tryd.ntmps47); (go_wp2_with (first | ((with_reducible refine gate_callee (f := 84) rfl ?_); refine gL (some 7) Tryd.func84 #[.slice A0 l0.length c0, .string a1] ?_; (with_reducible refine (slices_Index_string_string.calls k _ _ l0 a1 t101 _ ?side1 ?side2 A3.out).mono ?_); (case side1 => exact cI HR0.out); (case side2 => exact HC0.out); rintro e w' ⟨rfl, ⟨nd, rfl⟩⟩; refine ⟨_, rfl, ?_⟩))); go_ret; (exact ⟨by first | rfl | (simp; done) | (simp [*]; done), by repeat (first | exact Drawn0.refl _ | apply Drawn0.step)⟩)

end Go.Proofs.YtdogpphfofimeaaDoor.X
set_option linter.unusedVariables false
set_option linter.unusedSimpArgs false
namespace Go.Proofs.YtdogpphfofimeaaDoor.E
open Go.RowKit Go.Proofs.YtdogpphfofimeaaDoorW.PrintWords
variable {α β S R : Type}

theorem ev_cast {g : Nat → Option α} {r r' : α} (h : Ev g r) (e : r = r') : Ev g r' := e ▸ h
theorem ev_pos {c : Prop} [Decidable c] (h : c) {f g : Nat → Option α} {r : α} (k : Ev f r) : Ev (fun k => if c then f k else g k) r := Ev.congr (fun _ => if_pos h) k
theorem ev_neg {c : Prop} [Decidable c] (h : ¬ c) {f g : Nat → Option α} {r : α} (k : Ev g r) : Ev (fun k => if c then f k else g k) r := Ev.congr (fun _ => if_neg h) k
theorem ev_ite {c : Prop} [Decidable c] {f g : Nat → Option α} {r : α} (h1 : c → Ev f r) (h2 : ¬ c → Ev g r) : Ev (fun k => if c then f k else g k) r := by
  by_cases h : c
  · exact ev_pos h (h1 h)
  · exact ev_neg h (h2 h)
theorem ev_now {r r' : α} (e : r = r') : Ev (fun _ => some r) r' := e ▸ Ev.now r
theorem ev_bind0 {o : Option α} {a : α} (h : o = some a) {f : Nat → α → Option β} {r : β} (k : Ev (fun n => f n a) r) : Ev (fun n => o.bind (f n)) r := by subst h; exact k
theorem ev_some {a : α} {f : Nat → α → Option β} {r : β} (k : Ev (fun n => f n a) r) : Ev (fun n => (some a).bind (f n)) r := k
theorem ev_of {o : Option α} {r : α} (h : o = some r) : Ev (fun _ => o) r := h ▸ Ev.now r
/-- With rounds: what a printed function's '.f' tells for ever, told of a number of rounds. -/
theorem ev_get {g : Nat → Option α} {r : α} (h : Ev g r) : ∃ k, g k = some r := Ev.rounds h
theorem wrap_id {x : Int} (h0 : -9223372036854775808 ≤ x) (h1 : x ≤ 9223372036854775807) : wrap64 x = x := IntWalk.wrap64_in x ⟨h0, h1⟩
theorem wrap_succ {i n : Nat} (h : i < n) (hn : n ≤ 9223372036854775807) : wrap64 ((i : Int) + 1) = ((i + 1 : Nat) : Int) := by rw [wrap_id] <;> omega
theorem drop_cons {xs : List α} {i : Nat} {x : α} {r : List α} (h : xs.drop i = x :: r) (d : α) : xs.getD i d = x ∧ i < xs.length ∧ xs.drop (i + 1) = r ∧ xs[i]? = some x := by
  have hi : i < xs.length := by
    rcases Nat.lt_or_ge i xs.length with h' | h'
    · exact h'
    · rw [List.drop_eq_nil_of_le h'] at h; cases h
  have h2 := List.drop_eq_getElem_cons hi
  rw [h] at h2
  injection h2 with h3 h4
  exact ⟨by rw [List.getD_eq_getElem?_getD, List.getElem?_eq_getElem hi, Option.getD_some, h3], hi, h4.symm, by rw [List.getElem?_eq_getElem hi, h3]⟩

/-- A loop over a list by an index, with a state: what it answers is a recursion over what is left. -/
theorem ev_scan {L : Nat → S → Int → Option R} {G : S → Nat → List α → R} (I : S → Nat → List α → Prop) (xs : List α)
    (hend : ∀ s, I s xs.length [] → Ev (fun k => L k s xs.length) (G s xs.length []))
    (hstep : ∀ s (i : Nat) x r, I s i (x :: r) → i < xs.length → xs.drop i = x :: r → (∀ d, xs.getD i d = x) →
      (∀ s', I s' (i + 1) r → Ev (fun k => L k s' ((i + 1 : Nat) : Int)) (G s' (i + 1) r)) → Ev (fun k => L k s i) (G s i (x :: r))) :
    ∀ (n i : Nat) s, n = xs.length - i → i ≤ xs.length → I s i (xs.drop i) → Ev (fun k => L k s i) (G s i (xs.drop i)) := by
  intro n
  induction n with
  | zero =>
    intro i s hn hi hI
    obtain rfl : i = xs.length := by omega
    rw [List.drop_length] at hI ⊢
    exact hend s hI
  | succ n ih =>
    intro i s hn hi hI
    have hlt : i < xs.length := by omega
    obtain ⟨x, r, hd⟩ : ∃ x r, xs.drop i = x :: r := ⟨_, _, List.drop_eq_getElem_cons hlt⟩
    have hc := fun d => drop_cons hd d
    rw [hd] at hI ⊢
    refine hstep s i x r hI hlt hd (fun d => (hc d).1) (fun s' hI' => ?_)
    have := ih (i + 1) s' (by omega) (by omega)
    rw [(hc x).2.2.1] at this
    exact this hI'
theorem ev_scan0 {L : Nat → S → Int → Option R} {G : S → Nat → List α → R} (I : S → Nat → List α → Prop) (xs : List α) (s : S) (h0 : I s 0 xs)
    (hend : ∀ s, I s xs.length [] → Ev (fun k => L k s xs.length) (G s xs.length []))
    (hstep : ∀ s (i : Nat) x r, I s i (x :: r) → i < xs.length → xs.drop i = x :: r → (∀ d, xs.getD i d = x) →
      (∀ s', I s' (i + 1) r → Ev (fun k => L k s' ((i + 1 : Nat) : Int)) (G s' (i + 1) r)) → Ev (fun k => L k s i) (G s i (x :: r))) :
    Ev (fun k => L k s 0) (G s 0 xs) := ev_scan I xs hend hstep xs.length 0 s (by omega) (by omega) h0
/-- The same without a state. -/
theorem ev_walk {L : Nat → Int → Option R} {G : Nat → List α → R} (xs : List α)
    (hend : Ev (fun k => L k xs.length) (G xs.length []))
    (hstep : ∀ (i : Nat) x r, i < xs.length → xs.drop i = x :: r → (∀ d, xs.getD i d = x) →
      Ev (fun k => L k ((i + 1 : Nat) : Int)) (G (i + 1) r) → Ev (fun k => L k i) (G i (x :: r))) :
    Ev (fun k => L k 0) (G 0 xs) :=
  ev_scan0 (L := fun k (_ : Unit) i => L k i) (G := fun _ i r => G i r) (fun _ _ _ => True) xs () trivial (fun _ _ => hend) (fun _ i x r _ h1 h2 h3 h4 => hstep i x r h1 h2 h3 (h4 () trivial))

/-- A loop that fills a made list element by element. -/
theorem ev_fill {L : Nat → List β → Int → Option (List β)} (xs : List α) (conv : α → β) (z : β)
    (hend : ∀ out, Ev (fun k => L k out xs.length) out)
    (hstep : ∀ out (i : Nat) x y, i < xs.length → xs[i]? = some x → (∀ d, xs.getD i d = x) → out.length = xs.length → Ev (fun k => L k (out.set i (conv x)) ((i + 1 : Nat) : Int)) y → Ev (fun k => L k out i) y) :
    Ev (fun k => L k (List.replicate xs.length z) 0) (xs.map conv) := by
  have main : ∀ (n i : Nat) (out : List β), n = xs.length - i → i ≤ xs.length → out.length = xs.length → Ev (fun k => L k out i) (out.take i ++ (xs.drop i).map conv) := by
    intro n
    induction n with
    | zero =>
      intro i out hn hi hl
      obtain rfl : i = xs.length := by omega
      rw [List.drop_length, List.map_nil, List.append_nil, List.take_of_length_le (by omega)]
      exact hend out
    | succ n ih =>
      intro i out hn hi hl
      have hlt : i < xs.length := by omega
      have hx : xs[i]? = some xs[i] := List.getElem?_eq_getElem hlt
      have := ih (i + 1) (out.set i (conv xs[i])) (by omega) (by omega) (by rw [List.length_set]; exact hl)
      refine hstep out i xs[i] _ hlt hx (fun d => by rw [List.getD_eq_getElem?_getD, hx, Option.getD_some]) hl (ev_cast this ?_)
      rw [List.drop_eq_getElem_cons hlt, List.map_cons, List.take_succ_eq_append_getElem (by rw [List.length_set]; omega), List.getElem_set_self, List.append_assoc, List.singleton_append, List.take_set_of_le (Nat.le_refl i)]
  have h := main xs.length 0 (List.replicate xs.length z) (by omega) (by omega) (by rw [List.length_replicate])
  simpa using h
/-- A loop that compares two lists element by element: a list with itself. -/
theorem ev_same {L : Nat → Int → Option Bool} (n : Nat) (hend : Ev (fun k => L k n) true)
    (hstep : ∀ i : Nat, i < n → Ev (fun k => L k ((i + 1 : Nat) : Int)) true → Ev (fun k => L k i) true) : Ev (fun k => L k 0) true := by
  have main : ∀ (m i : Nat), m = n - i → i ≤ n → Ev (fun k => L k i) true := by
    intro m
    induction m with
    | zero => intro i h1 h2; obtain rfl : i = n := by omega
              exact hend
    | succ m ih => intro i h1 h2; exact hstep i (by omega) (ih (i + 1) (by omega) (by omega))
  exact main n 0 (by omega) (by omega)

/-- A loop that takes the elements' weights off a number. -/
theorem ev_sz {L : Nat → Int → Int → Option Int} (xs : List α) (f : α → Nat)
    (hend : ∀ left : Int, Ev (fun k => L k left xs.length) left)
    (hstep : ∀ (left : Int) (i : Nat) x y, 0 ≤ left → left ≤ 4611686018427387904 → i < xs.length → x ∈ xs → (∀ d, xs.getD i d = x) →
      ((f x : Int) ≤ left → Ev (fun k => L k (left - (f x : Int)) ((i + 1 : Nat) : Int)) y) → (¬ (f x : Int) ≤ left → y = -1) → Ev (fun k => L k left i) y) :
    ∀ left : Int, 0 ≤ left → left ≤ 4611686018427387904 → Ev (fun k => L k left 0) (if ((xs.map f).sum : Int) ≤ left then left - ((xs.map f).sum : Int) else -1) := by
  have main : ∀ (n i : Nat) (left : Int), n = xs.length - i → i ≤ xs.length → 0 ≤ left → left ≤ 4611686018427387904 →
      Ev (fun k => L k left i) (if ((((xs.drop i).map f).sum : Nat) : Int) ≤ left then left - ((((xs.drop i).map f).sum : Nat) : Int) else -1) := by
    intro n
    induction n with
    | zero =>
      intro i left hn hi h0 h1
      obtain rfl : i = xs.length := by omega
      rw [List.drop_length, List.map_nil, List.sum_nil]
      exact ev_cast (hend left) (by rw [if_pos (by omega)]; omega)
    | succ n ih =>
      intro i left hn hi h0 h1
      have hlt : i < xs.length := by omega
      rw [List.drop_eq_getElem_cons hlt, List.map_cons, List.sum_cons]
      refine hstep left i xs[i] _ h0 h1 hlt (List.getElem_mem hlt) (fun d => by rw [List.getD_eq_getElem?_getD, List.getElem?_eq_getElem hlt, Option.getD_some]) (fun hf => ?_) (fun hf => ?_)
      · refine ev_cast (ih (i + 1) (left - (f xs[i] : Int)) (by omega) (by omega) (by omega) (by omega)) ?_
        by_cases hs : ((((xs.drop (i + 1)).map f).sum : Nat) : Int) ≤ left - (f xs[i] : Int)
        · rw [if_pos hs, if_pos (by omega)]; omega
        · rw [if_neg hs, if_neg (by omega)]
      · rw [if_neg (by omega)]
  intro left h0 h1
  exact main xs.length 0 left (by omega) (by omega) h0 h1
theorem le_sum {l : List α} {f : α → Nat} {x : α} (h : x ∈ l) : f x ≤ (l.map f).sum := by
  induction l with
  | nil => cases h
  | cons y r ih =>
    rw [List.map_cons, List.sum_cons]
    rcases List.mem_cons.1 h with rfl | h
    · omega
    · have := ih h
      omega

/-- The place of the first element with a property, counted from i on; -1 if there is none. -/
def idxG (p : α → Bool) : Nat → List α → Int
  | _, [] => -1
  | i, x :: r => if p x = true then (i : Int) else idxG p (i + 1) r
theorem idxG_spec (p : α → Bool) : ∀ (l : List α) (i : Nat), (idxG p i l = -1 ∧ ∀ x ∈ l, p x = false) ∨
    ∃ j x, j < l.length ∧ idxG p i l = ((i + j : Nat) : Int) ∧ l[j]? = some x ∧ p x = true ∧ l.find? p = some x ∧ ∀ m y, m < j → l[m]? = some y → p y = false
  | [], i => .inl ⟨rfl, by simp⟩
  | x :: r, i => by
    by_cases h : p x = true
    · exact .inr ⟨0, x, by simp, by simp [idxG, h], rfl, h, by simp [h], fun m y hm => by omega⟩
    · rcases idxG_spec p r (i + 1) with ⟨h1, h2⟩ | ⟨j, y, h1, h2, h3, h4, h5, h6⟩
      · refine .inl ⟨by simp [idxG, h, h1], fun z hz => ?_⟩
        rcases List.mem_cons.1 hz with rfl | hz
        · simpa using h
        · exact h2 z hz
      · refine .inr ⟨j + 1, y, by simp only [List.length_cons]; omega, ?_, by simpa using h3, h4, by simp [h, h5], fun m z hm hz => ?_⟩
        · rw [idxG, if_neg h, h2]; congr 1; omega
        · cases m with
          | zero => simp at hz; subst hz; simpa using h
          | succ m => exact h6 m z (by omega) (by simpa using hz)
theorem idxG_lt (p : α → Bool) (l : List α) (i : Nat) : idxG p i l < 0 ↔ l.any p = false := by
  rcases idxG_spec p l i with ⟨h1, h2⟩ | ⟨j, x, h1, h2, h3, h4, h5, h6⟩
  · rw [h1]
    refine ⟨fun _ => ?_, fun _ => by omega⟩
    rw [List.any_eq_false]; intro x hx; simp [h2 x hx]
  · rw [h2]
    refine ⟨fun h => by omega, fun h => ?_⟩
    rw [List.any_eq_false] at h
    exact absurd h4 (h x (List.mem_of_getElem? h3))
theorem idxG_here {p : α → Bool} {l : List α} {k : Nat} {x : α} (hx : l[k]? = some x) (hp : p x = true) (h : ∀ m y, m < k → l[m]? = some y → p y = false) : idxG p 0 l = (k : Int) := by
  rcases idxG_spec p l 0 with ⟨h1, h2⟩ | ⟨j, y, h1, h2, h3, h4, h5, h6⟩
  · exact absurd hp (by rw [h2 x (List.mem_of_getElem? hx)]; simp)
  · rcases Nat.lt_trichotomy j k with hj | hj | hj
    · rw [h j y hj h3] at h4; cases h4
    · subst hj; rw [h2]; simp
    · rw [h6 k x hj hx] at hp; cases hp
theorem idxG_none {p : α → Bool} {l : List α} (h : ∀ m y, m < l.length → l[m]? = some y → p y = false) : idxG p 0 l = -1 := by
  rcases idxG_spec p l 0 with ⟨h1, h2⟩ | ⟨j, y, h1, h2, h3, h4, h5, h6⟩
  · exact h1
  · rw [h j y h1 h3] at h4; cases h4
theorem idxG_nonneg (p : α → Bool) (l : List α) (i : Nat) : decide (0 ≤ idxG p i l) = l.any p := by
  have h := idxG_lt p l i
  by_cases c : l.any p = true
  · rw [c, decide_eq_true_eq]
    have : ¬ idxG p i l < 0 := fun h' => by rw [h.1 h'] at c; cases c
    omega
  · have c' : l.any p = false := by simpa using c
    rw [c', decide_eq_false_iff_not]
    have := h.2 c'
    omega

/-- A loop that asks a test at each place, with a state that is known at each place. -/
theorem ev_all {L : Nat → S → Int → Option R} (n : Nat) (St : Nat → S) (C : Nat → Bool) (F Rn : R) (hend : (∀ j, j < n → C j = true) → Ev (fun k => L k (St n) n) Rn)
    (hs : ∀ i, i < n → (∀ j, j < i → C j = true) → C i = true → ∀ y, Ev (fun k => L k (St (i + 1)) ((i + 1 : Nat) : Int)) y → Ev (fun k => L k (St i) i) y)
    (hf : ∀ i, i < n → (∀ j, j < i → C j = true) → C i = false → Ev (fun k => L k (St i) i) F) : Ev (fun k => L k (St 0) 0) (if (List.range n).all C = true then Rn else F) := by
  have main : ∀ (m i : Nat), m = n - i → i ≤ n → (∀ j, j < i → C j = true) → Ev (fun k => L k (St i) i) (if (List.range n).all C = true then Rn else F) := by
    intro m
    induction m with
    | zero =>
      intro i hm hi hC
      obtain rfl : i = n := by omega
      rw [if_pos (by rw [List.all_eq_true]; intro x hx; exact hC x (List.mem_range.1 hx))]
      exact hend hC
    | succ m ih =>
      intro i hm hi hC
      have hlt : i < n := by omega
      cases hc : C i with
      | true =>
        refine hs i hlt hC hc _ (ih (i + 1) (by omega) (by omega) (fun j hj => ?_))
        by_cases e : j = i
        · rw [e]; exact hc
        · exact hC j (by omega)
      | false =>
        rw [if_neg (by rw [List.all_eq_true]; intro h; rw [h i (List.mem_range.2 hlt)] at hc; cases hc)]
        exact hf i hlt hC hc
  exact main n 0 (by omega) (by omega) (fun j hj => by omega)
theorem ev_all0 {L : Nat → Int → Option R} (n : Nat) (C : Nat → Bool) (F Rn : R) (hend : (∀ j, j < n → C j = true) → Ev (fun k => L k n) Rn)
    (hs : ∀ i, i < n → (∀ j, j < i → C j = true) → C i = true → ∀ y, Ev (fun k => L k ((i + 1 : Nat) : Int)) y → Ev (fun k => L k i) y)
    (hf : ∀ i, i < n → (∀ j, j < i → C j = true) → C i = false → Ev (fun k => L k i) F) : Ev (fun k => L k 0) (if (List.range n).all C = true then Rn else F) :=
  ev_all (L := fun k (_ : Unit) i => L k i) n (fun _ => ()) C F Rn hend hs hf
theorem all_range {n : Nat} {C : Nat → Bool} : (List.range n).all C = true ↔ ∀ i, i < n → C i = true := by
  rw [List.all_eq_true]
  exact ⟨fun h i hi => h i (List.mem_range.2 hi), fun h i hi => h i (List.mem_range.1 hi)⟩
theorem getD_in {α : Type} {l : List α} {i : Nat} (h : i < l.length) (d : α) : l.getD i d = l[i] := by rw [List.getD_eq_getElem?_getD, List.getElem?_eq_getElem h, Option.getD_some]
theorem idxG_take (p : α → Bool) : ∀ (l : List α) (s i : Nat), idxG p s (l.take i) = if (s : Int) ≤ idxG p s l ∧ idxG p s l < ((s + i : Nat) : Int) then idxG p s l else -1
  | [], s, i => by
    rw [List.take_nil]
    by_cases h : (s : Int) ≤ idxG p s ([] : List α) ∧ idxG p s ([] : List α) < ((s + i : Nat) : Int)
    · rw [if_pos h]
    · rw [if_neg h]; rfl
  | x :: r, s, 0 => by
    have h : idxG p s ((x :: r).take 0) = -1 := rfl
    rw [h, if_neg]
    omega
  | x :: r, s, i + 1 => by
    rw [List.take_succ_cons]
    by_cases h : p x = true
    · have e1 : idxG p s (x :: r) = (s : Int) := by simp [idxG, h]
      have e2 : idxG p s (x :: r.take i) = (s : Int) := by simp [idxG, h]
      rw [e1, e2, if_pos (by omega)]
    · have e1 : idxG p s (x :: r) = idxG p (s + 1) r := by simp [idxG, h]
      have e2 : idxG p s (x :: r.take i) = idxG p (s + 1) (r.take i) := by simp [idxG, h]
      rw [e1, e2, idxG_take p r (s + 1) i]
      rcases idxG_spec p r (s + 1) with ⟨h1, _⟩ | ⟨j, y, _, h2, _⟩
      · rw [h1, if_neg (by omega), if_neg (by omega)]
      · rw [h2]
        by_cases c : j < i
        · rw [if_pos (by omega), if_pos (by omega)]
        · rw [if_neg (by omega), if_neg (by omega)]
theorem idxG_range (p : α → Bool) (l : List α) : idxG p 0 l = -1 ∨ (0 ≤ idxG p 0 l ∧ idxG p 0 l < (l.length : Int)) := by
  rcases idxG_spec p l 0 with ⟨h1, _⟩ | ⟨j, y, h0, h2, _⟩
  · exact .inl h1
  · right; rw [h2]; omega
/-- The first one is at i, where the property holds: just where there is none ahead. -/
theorem idxG_first {p : α → Bool} {l : List α} {i : Nat} {x : α} (hx : l[i]? = some x) (hp : p x = true) : idxG p 0 l = (i : Int) ↔ idxG p 0 (l.take i) < 0 := by
  rw [idxG_take]
  have hle : 0 ≤ idxG p 0 l ∧ idxG p 0 l ≤ (i : Int) := by
    rcases idxG_spec p l 0 with ⟨h1, h2⟩ | ⟨j, y, h0, h2, h3, h4, h5, h6⟩
    · rw [h2 x (List.mem_of_getElem? hx)] at hp; cases hp
    · rw [h2]
      rcases Nat.lt_or_ge i j with h | h
      · rw [h6 i x h hx] at hp; cases hp
      · omega
  constructor
  · intro e
    rw [e, if_neg (by omega)]; omega
  · intro h
    by_cases c : ((0 : Nat) : Int) ≤ idxG p 0 l ∧ idxG p 0 l < ((0 + i : Nat) : Int)
    · rw [if_pos c] at h; omega
    · omega
end Go.Proofs.YtdogpphfofimeaaDoor.E
set_option linter.unusedVariables false
namespace Go.Proofs.YtdogpphfofimeaaDoor.X
open Go.RowKit Go.Proofs.YtdogpphfofimeaaDoorW.PrintWords Go.Proofs.YtdogpphfofimeaaDoorW.PrintLast Go.Proofs.YtdogpphfofimeaaDoorW.PrintMore Go.Proofs.YtdogpphfofimeaaDoor.E
set_option maxHeartbeats 1000000 in
set_option maxRecDepth 100000 in
theorem idxFunc98 (A_ : Option Addr) (c_ : Nat) (l0 : List (S69)) (g : Nat) (lb : Array Value) (p : S69 → Bool) (w : World)
    (hr0 : Kd.C k69 w A_ l0.length l0) (eg : ∀ args w, (callFunc g args).run Tryd.prog w = .ok (.enter g args) w)
    (hp : ∀ (W : World) (x : S69) (A4 : Option Addr) (c4 : Nat), x ∈ l0 → Below w.heap.size w W → x.f4.length ≤ c4 → Kd.C Kd.string W A4 x.f4.length x.f4 → Calls Tryd.prog g (#[.agg #[.string x.f0, .int .i64 x.f1, .int .i64 x.f2, .int .i64 x.f3, .slice A4 x.f4.length c4, .bool x.f5, .string x.f6]] ++ lb) W fun e w' => e = .returned (.bool (p x)) ∧ Below W.heap.size W w') :
    Calls Tryd.prog 98 #[.slice A_ l0.length c_, .func (.func g) #[] lb] w fun e w' => e = .returned (.int .i64 (idxG p 0 l0)) ∧ Below w.heap.size w w' := by
  have hu69 := Tryd.underlying69
  have HL := Aside0.mk hr0.2.1
  have HR0 := Aside0.mk hr0
  have HP := Aside0.mk hp
  clear hr0 hp
  go_enter Tryd.func98, Tryd.ntmps98
  go_wp2
  go_loopg [5, 8] l0.length (fun gg _ s8 wr => ∃ x8 : Int, s8 = .int .i64 x8 ∧ Aside0 (0 ≤ x8) ∧ Aside0 (x8 ≤ (l0.length : Int)) ∧ Aside0 ((l0.length : Int) - x8 ≤ (gg : Int)) ∧ Aside0 (Below w.heap.size w wr) ∧ Aside0 (∀ (m : Nat) y, (m : Int) < x8 → l0[m]? = some y → p y = false))
  case atStart => exact ⟨0, rfl, ⟨by omega⟩, ⟨by omega⟩, ⟨by omega⟩, ⟨Below.refl _ _⟩, ⟨fun m y hm => by omega⟩⟩
  case round =>
    obtain ⟨x8, rfl, H0, H1, HG, HB, HN⟩ := hrel
    by_cases c : x8 < (l0.length : Int)
    · have p1 := H0.out
      have q1 := c
      have cb : decide (x8 < (l0.length : Int)) = true := decide_eq_true c
      obtain ⟨ad, A4, c4, e, hx0, hx1, hx2, hx3, hx4, hx5, hx6, hl4, hi4⟩ := at_T69 (Kd.C_below HR0.out HB.out) x8 p1 q1
      cases e
      replace p1 := eq_true p1
      replace q1 := eq_true q1
      have hel : l0[x8.toNat]? = some (rd_T69 l0 x8) := by
        have := H0.out
        unfold rd_T69
        rw [List.getD_eq_getElem?_getD, List.getElem?_eq_getElem (show x8.toNat < l0.length by omega), Option.getD_some]
      have hcall := HP.out wr (rd_T69 l0 x8) A4 c4 (List.mem_of_getElem? hel) HB.out hl4 hi4
      clear hl4 hi4
      have HE := Aside0.mk hel
      clear hel
      have hwr : wrap64 (x8 + 1) = x8 + 1 := wrap_id (by have := H0.out; omega) (by have := HL.out; omega)
      cases hq : p (rd_T69 l0 x8) with
      | true =>
        rw [hq] at hcall
        have HQ := Aside0.mk hq
        clear hq
        go_wp2_with (go_at_fn g; refine hcall.mono ?_; rintro e w' ⟨rfl, hb⟩)
        go_ret
        refine ⟨?_, ?_⟩
        · rw [idxG_here HE.out HQ.out (fun m y hm => HN.out m y (by have := H0.out; omega))]
          have := H0.out
          rw [Int.toNat_of_nonneg (by omega)]
          rfl
        · exact below_step HB.out hb
      | false =>
        rw [hq] at hcall
        have HQ := Aside0.mk hq
        clear hq
        go_wp2_with (go_at_fn g; refine hcall.mono ?_; rintro e w' ⟨rfl, hb⟩)
        go_roundg (l0.length - (x8.toNat + 1))
        case measure => have := HG.out; have := H0.out; omega
        case rel =>
          refine ⟨x8 + 1, by simp [*], ⟨by have := H0.out; omega⟩, ⟨by omega⟩, ⟨by have := H0.out; omega⟩, ⟨below_step HB.out hb⟩, ⟨fun m y hm hy => ?_⟩⟩
          by_cases e : (m : Int) = x8
          · have : x8.toNat = m := by omega
            rw [← this, HE.out] at hy
            cases hy
            exact HQ.out
          · exact HN.out m y (by omega) hy
    · have cb : decide (x8 < (l0.length : Int)) = false := decide_eq_false c
      have e : x8 = (l0.length : Int) := by have := H1.out; omega
      have HE := Aside0.mk e
      clear e
      go_wp2
      go_ret
      refine ⟨?_, HB.out⟩
      rw [idxG_none (fun m y hm => HN.out m y (by rw [HE.out]; omega))]
      rfl
end Go.Proofs.YtdogpphfofimeaaDoor.X
namespace Go.Proofs.YtdogpphfofimeaaDoor.X
open Go.RowKit Go.Proofs.YtdogpphfofimeaaDoorW.PrintWords Go.Proofs.YtdogpphfofimeaaDoorW.PrintLast Go.Proofs.YtdogpphfofimeaaDoorW.PrintMore Go.Proofs.YtdogpphfofimeaaDoor.E
attribute [local go_sem] max2_int min2_int max_two min_two max_three min_three max_four min_four   -- for this text's walks alone
set_option linter.unusedVariables false
set_option linter.unusedSimpArgs false
attribute [-simp] ByteArray.size_append ByteArray.size_extract
attribute [-go_sem] ByteArray.size_append'

/-! ### impl_fieldOf: function 68 -/
/-- The literal of fieldOf: is it the field of this name? -/
theorem fieldOf1 (x : S69) (A4 : Option Addr) (c4 : Nat) (a : ByteArray) (B : Nat) (w : World) (hc : w.cell? ⟨B, 0, none⟩ = some (.string a)) :
  Calls Tryd.prog 99 #[.agg #[.string x.f0, .int .i64 x.f1, .int .i64 x.f2, .int .i64 x.f3, .slice A4 x.f4.length c4, .bool x.f5, .string x.f6], .pointer (some ⟨B, 0, none⟩)] w fun e w' => e = .returned (.bool (x.f0.toList == a.toList)) ∧ Below w.heap.size w w' := by
 (have hu59 := Tryd.underlying69); (have hc' : ∀ o : Obj, (w.alloc o).cell? ⟨B, 0, none⟩ = some (.string a) := fun o => ((((Below.refl _ _).alloc (Nat.le_refl _) o).cell (p := ⟨B, 0, none⟩) (bltc w _ hc))).trans hc); (go_enter Tryd.func99, Tryd.ntmps99); (go_wp2); go_ret; (exact ⟨rfl, (Below.refl _ _).alloc (Nat.le_refl _) _⟩)
def impl_fieldOf.f (l0 : List S69) (a1 : ByteArray) : Option Int := some (idxG (fun x : S69 => x.f0.toList == a1.toList) 0 l0)
set_option maxHeartbeats 400000 in
set_option maxRecDepth 100000 in
theorem impl_fieldOf.calls (A0 : Option Addr) (c0 : Nat) (l0 : List (S69)) (a1 : ByteArray) (r : Int) (w : World) (hr0 : Kd.C k69 w A0 l0.length l0) (hc0 : l0.length ≤ c0) (h : impl_fieldOf.f l0 a1 = some r) :
  Calls Tryd.prog 68 #[.slice A0 l0.length c0, .string a1] w fun e w' => e = .returned (.int .i64 r) ∧ Below w.heap.size w w' := by
 (have hr := Option.some.inj h); (have HH := Aside0.mk hr); clear h hr
 have C := fun (W : World) (hb : Below w.heap.size w W) (hlt : w.heap.size < W.heap.size) (hcell : W.cell? ⟨w.heap.size, 0, none⟩ = some (.string a1)) =>
  idxFunc98 A0 c0 l0 99 #[.pointer (some ⟨w.heap.size, 0, none⟩)] (fun x : S69 => x.f0.toList == a1.toList) W (Kd.C_below hr0 hb) (enters_of Tryd.func99 (by kernel_rfl) rfl) (fun W' x A4 c4 _ hb' _ _ => fieldOf1 x A4 c4 a1 w.heap.size W' ((hb'.cell (p := ⟨w.heap.size, 0, none⟩) hlt).trans hcell))
 (have CC := Aside0.mk C); clear C hr0; (go_enter Tryd.func68, Tryd.ntmps68); (go_wp2_with (go_at_call 98; refine (CC.out _ ?s1 ?s2 ?s3).mono ?_; (case s1 => exact (Below.refl _ _).alloc (Nat.le_refl _) _); (case s2 => simp); (case s3 => simp); rintro e w' ⟨rfl, hb⟩)); go_ret; (refine ⟨?_, below_step ((Below.refl _ _).alloc (Nat.le_refl _) _) hb⟩); (rw [← HH.out]); rfl

end Go.Proofs.YtdogpphfofimeaaDoor.X
namespace Go.Proofs.YtdogpphfofimeaaDoor.X
open Go.RowKit Go.Proofs.YtdogpphfofimeaaDoorW.PrintWords Go.Proofs.YtdogpphfofimeaaDoorW.PrintLast Go.Proofs.YtdogpphfofimeaaDoorW.PrintMore
attribute [local go_sem] max2_int min2_int max_two min_two max_three min_three max_four min_four   -- for this text's walks alone
set_option linter.unusedVariables false
set_option linter.unusedSimpArgs false
attribute [-simp] ByteArray.size_append ByteArray.size_extract
attribute [-go_sem] ByteArray.size_append'

/-! ### impl_isField: function 74 -/
mutual
def impl_isField.j0 : Nat → List (S69) → Bool → ByteArray → Int → Int → Int → List ByteArray → Bool → ByteArray → Option (Bool)
 | 0, _, _, _, _, _, _, _, _, _ => none
 | k + 1, x0, x18, x102000, x102001, x102002, x102003, x102004, x102005, x102006 => if x18 = true then (some false) else ((impl_fieldOf.f x0 x102006).bind fun t104 => (if x102006.toList = ([] : List UInt8) then (impl_isField.j1 k false x102000 x102001 x102002 x102003 x102004 x102005 x102006) else (if t104 < 0 then (impl_isField.j1 k true x102000 x102001 x102002 x102003 x102004 x102005 x102006) else (if 0 ≤ t104 then (if t104 < (x0.length : Int) then (impl_isField.j1 k (((rd_T69 x0 t104).f1) != 4) x102000 x102001 x102002 x102003 x102004 x102005 x102006) else (none)) else (none)))))
def impl_isField.j1 : Nat → Bool → ByteArray → Int → Int → Int → List ByteArray → Bool → ByteArray → Option (Bool)
 | 0, _, _, _, _, _, _, _, _ => none
 | k + 1, x37, x102000, x102001, x102002, x102003, x102004, x102005, x102006 => if x37 = true then (some false) else (if x102001 = 3 then (impl_isField.j2 k false x102000 x102001 x102002 x102003 x102004 x102005 x102006) else (impl_isField.j2 k (decide ((x102004.length : Int) > 0)) x102000 x102001 x102002 x102003 x102004 x102005 x102006))
def impl_isField.j2 : Nat → Bool → ByteArray → Int → Int → Int → List ByteArray → Bool → ByteArray → Option (Bool)
 | 0, _, _, _, _, _, _, _, _ => none
 | k + 1, x46, x102000, x102001, x102002, x102003, x102004, x102005, x102006 => if x46 = true then (some false) else (if x102001 = 1 then (if x102002 ≥ (-999999) then (if x102002 ≤ x102003 then (some (decide (x102003 ≤ 999999))) else (some false)) else (some false)) else (if x102001 = 2 then (if x102002 ≥ 0 then (if x102002 ≤ x102003 then (some (decide (x102003 ≤ 40))) else (some false)) else (some false)) else (if x102001 = 3 then (impl_isField.l0 k x102004 (x102004.length : Int) 0 x102000 x102001 x102002 x102003 x102004 x102005 x102006) else (if x102001 = 4 then (if x102002 = 0 then (some (x102003 == 0)) else (some false)) else (some false)))))
def impl_isField.l0 : Nat → List ByteArray → Int → Int → ByteArray → Int → Int → Int → List ByteArray → Bool → ByteArray → Option (Bool)
 | 0, _, _, _, _, _, _, _, _, _, _ => none
 | k + 1, x86, x87, x88, x102000, x102001, x102002, x102003, x102004, x102005, x102006 => if x88 < x87 then (if 0 ≤ x88 then (if x88 < (x86.length : Int) then ((impl_isName.f k (rdOf ByteArray.empty x86 x88)).bind fun t108 => (if t108 = true then (if x88 ≤ (x102004.length : Int) then ((slices_Contains_string_string.f k (x102004.take (x88 : Int).toNat) (rdOf ByteArray.empty x86 x88)).bind fun t110 => (if t110 = true then (some false) else (impl_isField.l0 k x86 x87 (wrap64 (x88 + 1)) x102000 x102001 x102002 x102003 x102004 x102005 x102006))) else (none)) else (some false))) else (none)) else (none)) else ((impl_within.f (x102004.length : Int) 1 6).bind fun t106 => (if t106 = true then (if x102002 = 0 then (some (x102003 == 0)) else (some false)) else (some false)))
end
def impl_isField.f (k : Nat) (l0 : List (S69)) (a1_0 : ByteArray) (a1_1 : Int) (a1_2 : Int) (a1_3 : Int) (l1_4 : List ByteArray) (a1_5 : Bool) (a1_6 : ByteArray) : Option (Bool) := (impl_isName.f k a1_0).bind fun t102 => (if t102 = true then ((impl_fieldOf.f l0 a1_0).bind fun t103 => (impl_isField.j0 k l0 (decide (t103 ≥ 0)) a1_0 a1_1 a1_2 a1_3 l1_4 a1_5 a1_6)) else (impl_isField.j0 k l0 true a1_0 a1_1 a1_2 a1_3 l1_4 a1_5 a1_6))
set_option maxHeartbeats 8000000 in
set_option maxRecDepth 100000 in
theorem impl_isField.calls (k : Nat) (A0 : Option Addr) (c0 : Nat) (l0 : List (S69)) (a1_0 : ByteArray) (a1_1 : Int) (a1_2 : Int) (a1_3 : Int) (A1_4 : Option Addr) (c1_4 : Nat) (l1_4 : List ByteArray) (a1_5 : Bool) (a1_6 : ByteArray) (r : Bool) (w : World) (hr0 : Kd.C k69 w A0 l0.length l0) (hc0 : l0.length ≤ c0) (hr1_4 : Kd.C Kd.string w A1_4 l1_4.length l1_4) (hc1_4 : l1_4.length ≤ c1_4) (h : impl_isField.f k l0 a1_0 a1_1 a1_2 a1_3 l1_4 a1_5 a1_6 = some r) :
  Calls Tryd.prog 74 #[.slice A0 l0.length c0, .agg #[.string a1_0, .int .i64 a1_1, .int .i64 a1_2, .int .i64 a1_3, .slice A1_4 l1_4.length c1_4, .bool a1_5, .string a1_6]] w fun e w' => e = .returned (.bool r) ∧ Below w.heap.size w w' := by
 (have hu69 := Tryd.underlying69); (have HR0 := Aside0.mk hr0); (have HC0 := Aside0.mk hc0); clear hr0 hc0; (have HR1_4 := Aside0.mk hr1_4); (have HC1_4 := Aside0.mk hc1_4); clear hr1_4 hc1_4; (have HB := Aside0.mk (Below.refl w.heap.size w)); (unfold impl_isField.f at h); (have H := h); clear h; (have HC3 := Aside0.mk H); clear H; (go_enter Tryd.func74, Tryd.ntmps74); (go_upto_region 1 with (first | ((with_reducible refine gate_dst (N := 3) rfl ?_); refine box_event ?hg (N := 3) ?hd (cs := #[.string a1_0, .int .i64 a1_1, .int .i64 a1_2, .int .i64 a1_3, .slice A1_4 l1_4.length c1_4, .bool a1_5, .string a1_6]) (t := 69) ?hr ?_; (case hd => rfl); (case hg => rfl); (case hr => first | (go_simp; done) | (go_simp; rfl)); intro gb101 hg w4 hbox hb; have hB_ := zI hb HB; have n0_ := Aside0.mk (below_step hB_ hb); have n1_ := Aside0.mk (hbox); have n2_ := Aside0.mk (bx0 hg hB_); have n3_ := n2_; clear HB; have HB := n0_; have BK101 := n1_; have GW101 := n2_; have GE101 := n3_; clear n0_ n1_ n2_ n3_ hB_ hb hbox hg))); ((try simp only [Act.put, aS1, aS2, aS3])); (go_cut [18] (fun v18 wc => ∃ (kq : Nat) (x18_2 : Bool), v18 = .bool x18_2 ∧ Aside0 (impl_isField.j0 kq l0 x18_2 a1_0 a1_1 a1_2 a1_3 l1_4 a1_5 a1_6 = some r) ∧ Aside0 (kq ≤ k) ∧ Aside0 (wc.heap[gb101]? = some (.cells #[.string a1_0, .int .i64 a1_1, .int .i64 a1_2, .int .i64 a1_3, (.slice A1_4 l1_4.length c1_4), .bool a1_5, .string a1_6] 69 (0, 0))) ∧ Aside0 (Below w.heap.size w wc)))
 case first =>
  (have H := HC3.out); clear HC3; (replace H := obS H); (obtain ⟨t102, A5, H⟩ := H); (by_cases c6 : t102 = true)
  ·subst c6
   (rw [if_pos rfl] at H); (replace H := obS H); (obtain ⟨t103, A7, H⟩ := H); (have H' := Aside0.mk H); clear H; (have hcz8_0 := cz BK101.out 0); (have hcz8_1 := cz BK101.out 1); (have hcz8_2 := cz BK101.out 2); (have hcz8_3 := cz BK101.out 3); (have hcz8_4 := cz BK101.out 4); (have hcz8_5 := cz BK101.out 5); (have hcz8_6 := cz BK101.out 6); (have hfz8_0 := blk_frozen BK101.out 0); (have hfz8_1 := blk_frozen BK101.out 1); (have hfz8_2 := blk_frozen BK101.out 2); (have hfz8_3 := blk_frozen BK101.out 3); (have hfz8_4 := blk_frozen BK101.out 4); (have hfz8_5 := blk_frozen BK101.out 5); (have hfz8_6 := blk_frozen BK101.out 6); (go_wp2_with (first | ((with_reducible refine gate_callee (f := 103) rfl ?_); refine gL (some 10) Tryd.func103 #[.string a1_0] ?_; (with_reducible refine (impl_isName.calls k a1_0 true _ A5.out).mono ?_); rintro e w' ⟨rfl, ⟨nd, rfl⟩⟩; refine ⟨_, rfl, ?_⟩) | (go_at_call 68; (with_reducible refine (impl_fieldOf.calls _ _ l0 a1_0 t103 _ ?side1 ?side2 A7.out).mono ?_); (case side1 => exact Kd.C_below HR0.out (eI HB)); (case side2 => exact HC0.out); rintro e w9 ⟨rfl, hb⟩; have n0_ := Aside0.mk (kbI hb BK101); have n1_ := Aside0.mk (sI hb HB); clear BK101 HB; have BK101 := n0_; have HB := n1_; clear n0_ n1_; (try clear hb); (try clear hb2); (try clear hk); (try clear hi)))); (go_meet)
   case rel => exact ⟨_, (decide (t103 ≥ 0)), (by first | rfl | (simp; done) | (simp [*]; done)), H', ⟨by first | omega | exact Nat.le_refl _⟩, ⟨kI BK101⟩, ⟨eI HB⟩⟩
  ·replace c6 := Bool.eq_false_iff.mpr c6
   subst c6; (rw [if_neg (show ¬ (false = true) by decide)] at H); (have H' := Aside0.mk H); clear H; (have hcz10_0 := cz BK101.out 0); (have hcz10_1 := cz BK101.out 1); (have hcz10_2 := cz BK101.out 2); (have hcz10_3 := cz BK101.out 3); (have hcz10_4 := cz BK101.out 4); (have hcz10_5 := cz BK101.out 5); (have hcz10_6 := cz BK101.out 6); (have hfz10_0 := blk_frozen BK101.out 0); (have hfz10_1 := blk_frozen BK101.out 1); (have hfz10_2 := blk_frozen BK101.out 2); (have hfz10_3 := blk_frozen BK101.out 3); (have hfz10_4 := blk_frozen BK101.out 4); (have hfz10_5 := blk_frozen BK101.out 5); (have hfz10_6 := blk_frozen BK101.out 6); (go_wp2_with (first | ((with_reducible refine gate_callee (f := 103) rfl ?_); refine gL (some 10) Tryd.func103 #[.string a1_0] ?_; (with_reducible refine (impl_isName.calls k a1_0 false _ A5.out).mono ?_); rintro e w' ⟨rfl, ⟨nd, rfl⟩⟩; refine ⟨_, rfl, ?_⟩))); (go_meet)
   case rel => exact ⟨_, (true), (by first | rfl | (simp; done) | (simp [*]; done)), H', ⟨by first | omega | exact Nat.le_refl _⟩, ⟨kI BK101⟩, ⟨eI HB⟩⟩
 case rest =>
  clear HC3; (try clear c1); (try clear p2); (try clear c6); (try clear c7); (try clear c10); (try clear hcz10_0); (try clear hcz10_1); (try clear hcz10_2); (try clear hcz10_3); (try clear hcz10_4); (try clear hcz10_5); (try clear hcz10_6); (try clear hcz8_0); (try clear hcz8_1); (try clear hcz8_2); (try clear hcz8_3); (try clear hcz8_4); (try clear hcz8_5); (try clear hcz8_6); (try clear hfz10_0); (try clear hfz10_1); (try clear hfz10_2); (try clear hfz10_3); (try clear hfz10_4); (try clear hfz10_5); (try clear hfz10_6); (try clear hfz8_0); (try clear hfz8_1); (try clear hfz8_2); (try clear hfz8_3); (try clear hfz8_4); (try clear hfz8_5); (try clear hfz8_6); (obtain ⟨kq, x18_2, rfl, HA, HJ2, BK101, HB⟩ := hcut)
  cases kq with
  | zero => exact absurd HA.out (by simp [impl_isField.j0])
  | succ kj2 =>
   (have H := HA.out); clear HA; (simp only [impl_isField.j0] at H); (by_cases c11 : x18_2 = true); (· subst c11; (rw [if_pos rfl] at H); (obtain rfl := Option.some.inj H); (go_wp2); go_ret; (exact ⟨rfl, eI HB⟩))
   ·replace c11 := Bool.eq_false_iff.mpr c11
    subst c11; (rw [if_neg (show ¬ (false = true) by decide)] at H); (replace H := obS H); (obtain ⟨t104, A12, H⟩ := H); (have HC13 := Aside0.mk H); clear H; (have hcz14_0 := cz BK101.out 0); (have hcz14_1 := cz BK101.out 1); (have hcz14_2 := cz BK101.out 2); (have hcz14_3 := cz BK101.out 3); (have hcz14_4 := cz BK101.out 4); (have hcz14_5 := cz BK101.out 5); (have hcz14_6 := cz BK101.out 6); (have hfz14_0 := blk_frozen BK101.out 0); (have hfz14_1 := blk_frozen BK101.out 1); (have hfz14_2 := blk_frozen BK101.out 2); (have hfz14_3 := blk_frozen BK101.out 3); (have hfz14_4 := blk_frozen BK101.out 4); (have hfz14_5 := blk_frozen BK101.out 5); (have hfz14_6 := blk_frozen BK101.out 6); (go_upto_region 4 with (first | ((with_reducible refine gate_callee (f := 68) rfl ?_); refine gL (some 22) Tryd.func68 #[.slice A0 l0.length c0, .string a1_6] ?_; (with_reducible refine (impl_fieldOf.calls _ _ l0 a1_6 t104 _ ?side1 ?side2 A12.out).mono ?_); (case side1 => exact Kd.C_below HR0.out (eI HB)); (case side2 => exact HC0.out); rintro e w15 ⟨rfl, hb⟩; refine ⟨_, rfl, ?_⟩; have n0_ := Aside0.mk (kbI hb BK101); have n1_ := Aside0.mk (sI hb HB); clear BK101 HB; have BK101 := n0_; have HB := n1_; clear n0_ n1_; (try clear hb); (try clear hb2); (try clear hk); (try clear hi)))); ((try simp only [Act.put, aS1, aS2, aS3])); (go_cut [37] (fun v37 wc => ∃ (kq : Nat) (x37_12 : Bool), v37 = .bool x37_12 ∧ Aside0 (impl_isField.j1 kq x37_12 a1_0 a1_1 a1_2 a1_3 l1_4 a1_5 a1_6 = some r) ∧ Aside0 (kq ≤ kj2) ∧ Aside0 (wc.heap[gb101]? = some (.cells #[.string a1_0, .int .i64 a1_1, .int .i64 a1_2, .int .i64 a1_3, (.slice A1_4 l1_4.length c1_4), .bool a1_5, .string a1_6] 69 (0, 0))) ∧ Aside0 (Below w.heap.size w wc)))
    case first =>
     (have H := HC13.out); clear HC13; (by_cases c16 : a1_6.toList = ([] : List UInt8))
     ·rw [if_pos c16] at H
      (have c16b0 : a1_6.toList.isEmpty = true := List.isEmpty_iff.mpr c16); (have c16b1 : (!a1_6.toList.isEmpty) = false := by rw [List.isEmpty_iff.mpr c16]; rfl); (have c16b2 : (a1_6.toList == ([] : List UInt8)) = true := beq_iff_eq.mpr c16); (have c16b3 : (a1_6.toList != ([] : List UInt8)) = false := bne_eq_false_iff_eq.mpr c16); clear c16; ((first | rw [c16b0] | (simp only [i64_w, i32_w]; rw [c16b0]) | skip)); (have H' := Aside0.mk H); clear H; (have hcz17_0 := cz BK101.out 0); (have hcz17_1 := cz BK101.out 1); (have hcz17_2 := cz BK101.out 2); (have hcz17_3 := cz BK101.out 3); (have hcz17_4 := cz BK101.out 4); (have hcz17_5 := cz BK101.out 5); (have hcz17_6 := cz BK101.out 6); (have hfz17_0 := blk_frozen BK101.out 0); (have hfz17_1 := blk_frozen BK101.out 1); (have hfz17_2 := blk_frozen BK101.out 2); (have hfz17_3 := blk_frozen BK101.out 3); (have hfz17_4 := blk_frozen BK101.out 4); (have hfz17_5 := blk_frozen BK101.out 5); (have hfz17_6 := blk_frozen BK101.out 6); (go_wp2); (go_meet)
      case rel => exact ⟨_, (false), (by first | rfl | (simp; done) | (simp [*]; done)), H', ⟨by have := HJ2.out; first | omega | exact Nat.le_refl _⟩, ⟨kI BK101⟩, ⟨eI HB⟩⟩
     ·rw [if_neg c16] at H
      (have c16b0 : a1_6.toList.isEmpty = false := by rw [Bool.eq_false_iff]; exact fun h_ => c16 (List.isEmpty_iff.mp h_)); (have c16b1 : (!a1_6.toList.isEmpty) = true := by rw [show a1_6.toList.isEmpty = false from by rw [Bool.eq_false_iff]; exact fun h_ => c16 (List.isEmpty_iff.mp h_)]; rfl); (have c16b2 : (a1_6.toList == ([] : List UInt8)) = false := beq_eq_false_iff_ne.mpr c16); (have c16b3 : (a1_6.toList != ([] : List UInt8)) = true := bne_iff_ne.mpr c16); ((first | rw [c16b0] | (simp only [i64_w, i32_w]; rw [c16b0]) | skip)); (by_cases c18 : t104 < 0)
      ·rw [if_pos c18] at H
       (have c18b0 := decide_eq_true c18); clear c18; (have H' := Aside0.mk H); clear H; (have hcz19_0 := cz BK101.out 0); (have hcz19_1 := cz BK101.out 1); (have hcz19_2 := cz BK101.out 2); (have hcz19_3 := cz BK101.out 3); (have hcz19_4 := cz BK101.out 4); (have hcz19_5 := cz BK101.out 5); (have hcz19_6 := cz BK101.out 6); (have hfz19_0 := blk_frozen BK101.out 0); (have hfz19_1 := blk_frozen BK101.out 1); (have hfz19_2 := blk_frozen BK101.out 2); (have hfz19_3 := blk_frozen BK101.out 3); (have hfz19_4 := blk_frozen BK101.out 4); (have hfz19_5 := blk_frozen BK101.out 5); (have hfz19_6 := blk_frozen BK101.out 6); (go_wp2); (go_meet)
       case rel => exact ⟨_, (true), (by first | rfl | (simp; done) | (simp [*]; done)), H', ⟨by have := HJ2.out; first | omega | exact Nat.le_refl _⟩, ⟨kI BK101⟩, ⟨eI HB⟩⟩
      ·rw [if_neg c18] at H
       (have c18b0 := decide_eq_false c18); clear c18; (by_cases c20 : 0 ≤ t104)
       ·rw [if_pos c20] at H
        (have c20b0 := decide_eq_true c20); clear c20; (by_cases c21 : t104 < (l0.length : Int))
        ·rw [if_pos c21] at H
         (have c21b0 := decide_eq_true c21); clear c21; (have H' := Aside0.mk H); clear H; (have hcz22_0 := cz BK101.out 0); (have hcz22_1 := cz BK101.out 1); (have hcz22_2 := cz BK101.out 2); (have hcz22_3 := cz BK101.out 3); (have hcz22_4 := cz BK101.out 4); (have hcz22_5 := cz BK101.out 5); (have hcz22_6 := cz BK101.out 6); (have hfz22_0 := blk_frozen BK101.out 0); (have hfz22_1 := blk_frozen BK101.out 1); (have hfz22_2 := blk_frozen BK101.out 2); (have hfz22_3 := blk_frozen BK101.out 3); (have hfz22_4 := blk_frozen BK101.out 4); (have hfz22_5 := blk_frozen BK101.out 5); (have hfz22_6 := blk_frozen BK101.out 6); (have p105 : 0 ≤ (t104 : Int) := odt); (have q105 : t104 < (l0.length : Int) := odt); (obtain ⟨ad105, A105_4, c105_4, e105, hx105_0, hx105_1, hx105_2, hx105_3, hx105_4, hx105_5, hx105_6, hl105_4, hi105_4⟩ := at_T69 HR0.out t104 p105 q105); (cases e105); (replace hx105_0 := hcI HB hx105_0); (replace hx105_1 := hcI HB hx105_1); (replace hx105_2 := hcI HB hx105_2); (replace hx105_3 := hcI HB hx105_3); (replace hx105_4 := hcI HB hx105_4); (replace hx105_5 := hcI HB hx105_5); (replace hx105_6 := hcI HB hx105_6); (have HR105_4 := Aside0.mk hi105_4); (have HC105_4 := Aside0.mk hl105_4); clear hi105_4 hl105_4; (replace p105 := eq_true p105); (replace q105 := eq_true q105); (go_wp2); (go_meet)
         case rel => exact ⟨_, ((((rd_T69 l0 t104).f1) != 4)), (by first | rfl | (simp; done) | (simp [*]; done)), H', ⟨by have := HJ2.out; first | omega | exact Nat.le_refl _⟩, ⟨kI BK101⟩, ⟨eI HB⟩⟩
        ·rw [if_neg c21] at H
         exact absurd H (by simp)
       ·rw [if_neg c20] at H
        exact absurd H (by simp)
    case rest =>
     clear HC13; (try clear c1); (try clear p1); (try clear q1); (try clear hx1); (try clear c2); (try clear p2); (try clear c6); (try clear c7); (try clear c10); (try clear p10); (try clear q10); (try clear hx10); (try clear c11); (try clear c16); (try clear c16b0); (try clear c16b1); (try clear c16b2); (try clear c18); (try clear c18b0); (try clear c20); (try clear c20b0); (try clear c21); (try clear c21b0); (try clear hcz10_0); (try clear hcz10_1); (try clear hcz10_2); (try clear hcz10_3); (try clear hcz10_4); (try clear hcz10_5); (try clear hcz10_6); (try clear hcz14_0); (try clear hcz14_1); (try clear hcz14_2); (try clear hcz14_3); (try clear hcz14_4); (try clear hcz14_5); (try clear hcz14_6); (try clear hcz17_0); (try clear hcz17_1); (try clear hcz17_2); (try clear hcz17_3); (try clear hcz17_4); (try clear hcz17_5); (try clear hcz17_6); (try clear hcz19_0); (try clear hcz19_1); (try clear hcz19_2); (try clear hcz19_3); (try clear hcz19_4); (try clear hcz19_5); (try clear hcz19_6); (try clear hcz22_0); (try clear hcz22_1); (try clear hcz22_2); (try clear hcz22_3); (try clear hcz22_4); (try clear hcz22_5); (try clear hcz22_6); (try clear hcz8_0); (try clear hcz8_1); (try clear hcz8_2); (try clear hcz8_3); (try clear hcz8_4); (try clear hcz8_5); (try clear hcz8_6); (try clear hfz10_0); (try clear hfz10_1); (try clear hfz10_2); (try clear hfz10_3); (try clear hfz10_4); (try clear hfz10_5); (try clear hfz10_6); (try clear hfz14_0); (try clear hfz14_1); (try clear hfz14_2); (try clear hfz14_3); (try clear hfz14_4); (try clear hfz14_5); (try clear hfz14_6); (try clear hfz17_0); (try clear hfz17_1); (try clear hfz17_2); (try clear hfz17_3); (try clear hfz17_4); (try clear hfz17_5); (try clear hfz17_6); (try clear hfz19_0); (try clear hfz19_1); (try clear hfz19_2); (try clear hfz19_3); (try clear hfz19_4); (try clear hfz19_5); (try clear hfz19_6); (try clear hfz22_0); (try clear hfz22_1); (try clear hfz22_2); (try clear hfz22_3); (try clear hfz22_4); (try clear hfz22_5); (try clear hfz22_6); (try clear hfz8_0); (try clear hfz8_1); (try clear hfz8_2); (try clear hfz8_3); (try clear hfz8_4); (try clear hfz8_5); (try clear hfz8_6); (try clear hx105_0); (try clear hx105_1); (try clear hx105_2); (try clear hx105_3); (try clear hx105_4); (try clear hx105_5); (try clear hx105_6); (try clear p105); (try clear p2); (try clear q105); (obtain ⟨kq, x37_12, rfl, HA, HJ12, BK101, HB⟩ := hcut)
     cases kq with
     | zero => exact absurd HA.out (by simp [impl_isField.j1])
     | succ kj12 =>
      (have H := HA.out); clear HA; (simp only [impl_isField.j1] at H); (by_cases c23 : x37_12 = true); (· subst c23; (rw [if_pos rfl] at H); (obtain rfl := Option.some.inj H); (go_wp2); go_ret; (exact ⟨rfl, eI HB⟩))
      ·replace c23 := Bool.eq_false_iff.mpr c23
       subst c23; (rw [if_neg (show ¬ (false = true) by decide)] at H); (have HC24 := Aside0.mk H); clear H; (go_upto_region 6 with (fail)); (go_cut [46] (fun v46 wc => ∃ (kq : Nat) (x46_23 : Bool), v46 = .bool x46_23 ∧ Aside0 (impl_isField.j2 kq x46_23 a1_0 a1_1 a1_2 a1_3 l1_4 a1_5 a1_6 = some r) ∧ Aside0 (kq ≤ kj12) ∧ Aside0 (wc.heap[gb101]? = some (.cells #[.string a1_0, .int .i64 a1_1, .int .i64 a1_2, .int .i64 a1_3, (.slice A1_4 l1_4.length c1_4), .bool a1_5, .string a1_6] 69 (0, 0))) ∧ Aside0 (Below w.heap.size w wc)))
       case first =>
        (have H := HC24.out); clear HC24; (by_cases c25 : a1_1 = 3)
        ·rw [if_pos c25] at H
         (have c25b0 : (a1_1 == 3) = true := beq_iff_eq.mpr c25); (have c25b1 : (a1_1 != 3) = false := bne_eq_false_iff_eq.mpr c25); clear c25; ((first | rw [c25b0] | (simp only [i64_w, i32_w]; rw [c25b0]) | skip)); (have H' := Aside0.mk H); clear H; (have hcz26_0 := cz BK101.out 0); (have hcz26_1 := cz BK101.out 1); (have hcz26_2 := cz BK101.out 2); (have hcz26_3 := cz BK101.out 3); (have hcz26_4 := cz BK101.out 4); (have hcz26_5 := cz BK101.out 5); (have hcz26_6 := cz BK101.out 6); (have hfz26_0 := blk_frozen BK101.out 0); (have hfz26_1 := blk_frozen BK101.out 1); (have hfz26_2 := blk_frozen BK101.out 2); (have hfz26_3 := blk_frozen BK101.out 3); (have hfz26_4 := blk_frozen BK101.out 4); (have hfz26_5 := blk_frozen BK101.out 5); (have hfz26_6 := blk_frozen BK101.out 6); (go_wp2); (go_meet)
         case rel => exact ⟨_, (false), (by first | rfl | (simp; done) | (simp [*]; done)), H', ⟨by have := HJ2.out; have := HJ12.out; first | omega | exact Nat.le_refl _⟩, ⟨kI BK101⟩, ⟨eI HB⟩⟩
        ·rw [if_neg c25] at H
         (have c25b0 : (a1_1 == 3) = false := beq_eq_false_iff_ne.mpr c25); (have c25b1 : (a1_1 != 3) = true := bne_iff_ne.mpr c25); ((first | rw [c25b0] | (simp only [i64_w, i32_w]; rw [c25b0]) | skip)); (have H' := Aside0.mk H); clear H; (have hcz27_0 := cz BK101.out 0); (have hcz27_1 := cz BK101.out 1); (have hcz27_2 := cz BK101.out 2); (have hcz27_3 := cz BK101.out 3); (have hcz27_4 := cz BK101.out 4); (have hcz27_5 := cz BK101.out 5); (have hcz27_6 := cz BK101.out 6); (have hfz27_0 := blk_frozen BK101.out 0); (have hfz27_1 := blk_frozen BK101.out 1); (have hfz27_2 := blk_frozen BK101.out 2); (have hfz27_3 := blk_frozen BK101.out 3); (have hfz27_4 := blk_frozen BK101.out 4); (have hfz27_5 := blk_frozen BK101.out 5); (have hfz27_6 := blk_frozen BK101.out 6); (go_wp2); (go_meet)
         case rel => exact ⟨_, (decide ((l1_4.length : Int) > 0)), (by first | rfl | (simp; done) | (simp [*]; done)), H', ⟨by have := HJ2.out; have := HJ12.out; first | omega | exact Nat.le_refl _⟩, ⟨kI BK101⟩, ⟨eI HB⟩⟩
       case rest =>
        clear HC24; (try clear c1); (try clear p1); (try clear q1); (try clear hx1); (try clear c2); (try clear p2); (try clear c6); (try clear c7); (try clear c10); (try clear p10); (try clear q10); (try clear hx10); (try clear c11); (try clear c16); (try clear c16b0); (try clear c16b1); (try clear c16b2); (try clear c18); (try clear c18b0); (try clear c20); (try clear c20b0); (try clear c21); (try clear c21b0); (try clear c23); (try clear c25); (try clear c25b0); (try clear c25b1); (try clear hcz10_0); (try clear hcz10_1); (try clear hcz10_2); (try clear hcz10_3); (try clear hcz10_4); (try clear hcz10_5); (try clear hcz10_6); (try clear hcz14_0); (try clear hcz14_1); (try clear hcz14_2); (try clear hcz14_3); (try clear hcz14_4); (try clear hcz14_5); (try clear hcz14_6); (try clear hcz17_0); (try clear hcz17_1); (try clear hcz17_2); (try clear hcz17_3); (try clear hcz17_4); (try clear hcz17_5); (try clear hcz17_6); (try clear hcz19_0); (try clear hcz19_1); (try clear hcz19_2); (try clear hcz19_3); (try clear hcz19_4); (try clear hcz19_5); (try clear hcz19_6); (try clear hcz22_0); (try clear hcz22_1); (try clear hcz22_2); (try clear hcz22_3); (try clear hcz22_4); (try clear hcz22_5); (try clear hcz22_6); (try clear hcz26_0); (try clear hcz26_1); (try clear hcz26_2); (try clear hcz26_3); (try clear hcz26_4); (try clear hcz26_5); (try clear hcz26_6); (try clear hcz27_0); (try clear hcz27_1); (try clear hcz27_2); (try clear hcz27_3); (try clear hcz27_4); (try clear hcz27_5); (try clear hcz27_6); (try clear hcz8_0); (try clear hcz8_1); (try clear hcz8_2); (try clear hcz8_3); (try clear hcz8_4); (try clear hcz8_5); (try clear hcz8_6); (try clear hfz10_0); (try clear hfz10_1); (try clear hfz10_2); (try clear hfz10_3); (try clear hfz10_4); (try clear hfz10_5); (try clear hfz10_6); (try clear hfz14_0); (try clear hfz14_1); (try clear hfz14_2); (try clear hfz14_3); (try clear hfz14_4); (try clear hfz14_5); (try clear hfz14_6); (try clear hfz17_0); (try clear hfz17_1); (try clear hfz17_2); (try clear hfz17_3); (try clear hfz17_4); (try clear hfz17_5); (try clear hfz17_6); (try clear hfz19_0); (try clear hfz19_1); (try clear hfz19_2); (try clear hfz19_3); (try clear hfz19_4); (try clear hfz19_5); (try clear hfz19_6); (try clear hfz22_0); (try clear hfz22_1); (try clear hfz22_2); (try clear hfz22_3); (try clear hfz22_4); (try clear hfz22_5); (try clear hfz22_6); (try clear hfz26_0); (try clear hfz26_1); (try clear hfz26_2); (try clear hfz26_3); (try clear hfz26_4); (try clear hfz26_5); (try clear hfz26_6); (try clear hfz27_0); (try clear hfz27_1); (try clear hfz27_2); (try clear hfz27_3); (try clear hfz27_4); (try clear hfz27_5); (try clear hfz27_6); (try clear hfz8_0); (try clear hfz8_1); (try clear hfz8_2); (try clear hfz8_3); (try clear hfz8_4); (try clear hfz8_5); (try clear hfz8_6); (try clear hx105_0); (try clear hx105_1); (try clear hx105_2); (try clear hx105_3); (try clear hx105_4); (try clear hx105_5); (try clear hx105_6); (try clear p1); (try clear p10); (try clear p105); (try clear p2); (try clear q1); (try clear q10); (try clear q105); (obtain ⟨kq, x46_23, rfl, HA, HJ23, BK101, HB⟩ := hcut)
        cases kq with
        | zero => exact absurd HA.out (by simp [impl_isField.j2])
        | succ kj23 =>
         (have H := HA.out); clear HA; (simp only [impl_isField.j2] at H); (by_cases c28 : x46_23 = true); (· subst c28; (rw [if_pos rfl] at H); (obtain rfl := Option.some.inj H); (go_wp2); go_ret; (exact ⟨rfl, eI HB⟩))
         ·replace c28 := Bool.eq_false_iff.mpr c28
          subst c28; (rw [if_neg (show ¬ (false = true) by decide)] at H); (by_cases c29 : a1_1 = 1)
          ·rw [if_pos c29] at H
           (have c29b0 : (a1_1 == 1) = true := beq_iff_eq.mpr c29); (have c29b1 : (a1_1 != 1) = false := bne_eq_false_iff_eq.mpr c29); clear c29; (by_cases c30 : a1_2 ≥ (-999999))
           ·rw [if_pos c30] at H
            (have c30b0 : decide ((-999999) ≤ a1_2) = true := decide_eq_true c30); clear c30; (by_cases c31 : a1_2 ≤ a1_3)
            ·rw [if_pos c31] at H
             (have c31b0 := decide_eq_true c31); clear c31; (obtain rfl := Option.some.inj H); (have hcz32_0 := cz BK101.out 0); (have hcz32_1 := cz BK101.out 1); (have hcz32_2 := cz BK101.out 2); (have hcz32_3 := cz BK101.out 3); (have hcz32_4 := cz BK101.out 4); (have hcz32_5 := cz BK101.out 5); (have hcz32_6 := cz BK101.out 6); (have hfz32_0 := blk_frozen BK101.out 0); (have hfz32_1 := blk_frozen BK101.out 1); (have hfz32_2 := blk_frozen BK101.out 2); (have hfz32_3 := blk_frozen BK101.out 3); (have hfz32_4 := blk_frozen BK101.out 4); (have hfz32_5 := blk_frozen BK101.out 5); (have hfz32_6 := blk_frozen BK101.out 6); (go_wp2); go_ret; (exact ⟨rfl, eI HB⟩)
            ·rw [if_neg c31] at H
             (have c31b0 := decide_eq_false c31); clear c31; (obtain rfl := Option.some.inj H); (have hcz33_0 := cz BK101.out 0); (have hcz33_1 := cz BK101.out 1); (have hcz33_2 := cz BK101.out 2); (have hcz33_3 := cz BK101.out 3); (have hcz33_4 := cz BK101.out 4); (have hcz33_5 := cz BK101.out 5); (have hcz33_6 := cz BK101.out 6); (have hfz33_0 := blk_frozen BK101.out 0); (have hfz33_1 := blk_frozen BK101.out 1); (have hfz33_2 := blk_frozen BK101.out 2); (have hfz33_3 := blk_frozen BK101.out 3); (have hfz33_4 := blk_frozen BK101.out 4); (have hfz33_5 := blk_frozen BK101.out 5); (have hfz33_6 := blk_frozen BK101.out 6); (go_wp2); go_ret; (exact ⟨rfl, eI HB⟩)
           ·rw [if_neg c30] at H
            (have c30b0 : decide ((-999999) ≤ a1_2) = false := decide_eq_false c30); clear c30; (obtain rfl := Option.some.inj H); (have hcz34_0 := cz BK101.out 0); (have hcz34_1 := cz BK101.out 1); (have hcz34_2 := cz BK101.out 2); (have hcz34_3 := cz BK101.out 3); (have hcz34_4 := cz BK101.out 4); (have hcz34_5 := cz BK101.out 5); (have hcz34_6 := cz BK101.out 6); (have hfz34_0 := blk_frozen BK101.out 0); (have hfz34_1 := blk_frozen BK101.out 1); (have hfz34_2 := blk_frozen BK101.out 2); (have hfz34_3 := blk_frozen BK101.out 3); (have hfz34_4 := blk_frozen BK101.out 4); (have hfz34_5 := blk_frozen BK101.out 5); (have hfz34_6 := blk_frozen BK101.out 6); (go_wp2); go_ret; (exact ⟨rfl, eI HB⟩)
          ·rw [if_neg c29] at H
           (have c29b0 : (a1_1 == 1) = false := beq_eq_false_iff_ne.mpr c29); (have c29b1 : (a1_1 != 1) = true := bne_iff_ne.mpr c29); (by_cases c35 : a1_1 = 2)
           ·rw [if_pos c35] at H
            (have c35b0 : (a1_1 == 2) = true := beq_iff_eq.mpr c35); (have c35b1 : (a1_1 != 2) = false := bne_eq_false_iff_eq.mpr c35); clear c35; (by_cases c36 : a1_2 ≥ 0)
            ·rw [if_pos c36] at H
             (have c36b0 : decide (0 ≤ a1_2) = true := decide_eq_true c36); clear c36; (by_cases c37 : a1_2 ≤ a1_3)
             ·rw [if_pos c37] at H
              (have c37b0 := decide_eq_true c37); clear c37; (obtain rfl := Option.some.inj H); (have hcz38_0 := cz BK101.out 0); (have hcz38_1 := cz BK101.out 1); (have hcz38_2 := cz BK101.out 2); (have hcz38_3 := cz BK101.out 3); (have hcz38_4 := cz BK101.out 4); (have hcz38_5 := cz BK101.out 5); (have hcz38_6 := cz BK101.out 6); (have hfz38_0 := blk_frozen BK101.out 0); (have hfz38_1 := blk_frozen BK101.out 1); (have hfz38_2 := blk_frozen BK101.out 2); (have hfz38_3 := blk_frozen BK101.out 3); (have hfz38_4 := blk_frozen BK101.out 4); (have hfz38_5 := blk_frozen BK101.out 5); (have hfz38_6 := blk_frozen BK101.out 6); (go_wp2); go_ret; (exact ⟨rfl, eI HB⟩)
             ·rw [if_neg c37] at H
              (have c37b0 := decide_eq_false c37); clear c37; (obtain rfl := Option.some.inj H); (have hcz39_0 := cz BK101.out 0); (have hcz39_1 := cz BK101.out 1); (have hcz39_2 := cz BK101.out 2); (have hcz39_3 := cz BK101.out 3); (have hcz39_4 := cz BK101.out 4); (have hcz39_5 := cz BK101.out 5); (have hcz39_6 := cz BK101.out 6); (have hfz39_0 := blk_frozen BK101.out 0); (have hfz39_1 := blk_frozen BK101.out 1); (have hfz39_2 := blk_frozen BK101.out 2); (have hfz39_3 := blk_frozen BK101.out 3); (have hfz39_4 := blk_frozen BK101.out 4); (have hfz39_5 := blk_frozen BK101.out 5); (have hfz39_6 := blk_frozen BK101.out 6); (go_wp2); go_ret; (exact ⟨rfl, eI HB⟩)
            ·rw [if_neg c36] at H
             (have c36b0 : decide (0 ≤ a1_2) = false := decide_eq_false c36); clear c36; (obtain rfl := Option.some.inj H); (have hcz40_0 := cz BK101.out 0); (have hcz40_1 := cz BK101.out 1); (have hcz40_2 := cz BK101.out 2); (have hcz40_3 := cz BK101.out 3); (have hcz40_4 := cz BK101.out 4); (have hcz40_5 := cz BK101.out 5); (have hcz40_6 := cz BK101.out 6); (have hfz40_0 := blk_frozen BK101.out 0); (have hfz40_1 := blk_frozen BK101.out 1); (have hfz40_2 := blk_frozen BK101.out 2); (have hfz40_3 := blk_frozen BK101.out 3); (have hfz40_4 := blk_frozen BK101.out 4); (have hfz40_5 := blk_frozen BK101.out 5); (have hfz40_6 := blk_frozen BK101.out 6); (go_wp2); go_ret; (exact ⟨rfl, eI HB⟩)
           ·rw [if_neg c35] at H
            (have c35b0 : (a1_1 == 2) = false := beq_eq_false_iff_ne.mpr c35); (have c35b1 : (a1_1 != 2) = true := bne_iff_ne.mpr c35); (by_cases c41 : a1_1 = 3)
            ·rw [if_pos c41] at H
             (have c41b0 : (a1_1 == 3) = true := beq_iff_eq.mpr c41); (have c41b1 : (a1_1 != 3) = false := bne_eq_false_iff_eq.mpr c41); clear c41; (have H' := Aside0.mk H); clear H; (have hcz42_0 := cz BK101.out 0); (have hcz42_1 := cz BK101.out 1); (have hcz42_2 := cz BK101.out 2); (have hcz42_3 := cz BK101.out 3); (have hcz42_4 := cz BK101.out 4); (have hcz42_5 := cz BK101.out 5); (have hcz42_6 := cz BK101.out 6); (have hfz42_0 := blk_frozen BK101.out 0); (have hfz42_1 := blk_frozen BK101.out 1); (have hfz42_2 := blk_frozen BK101.out 2); (have hfz42_3 := blk_frozen BK101.out 3); (have hfz42_4 := blk_frozen BK101.out 4); (have hfz42_5 := blk_frozen BK101.out 5); (have hfz42_6 := blk_frozen BK101.out 6); (go_wp2); (go_loopg [88] kj23 (fun kq v88 w' => ∃ (x88_4 : Int), v88 = .int .i64 x88_4 ∧ Aside0 (impl_isField.l0 kq l1_4 (l1_4.length : Int) x88_4 a1_0 a1_1 a1_2 a1_3 l1_4 a1_5 a1_6 = some r) ∧ Aside0 (kq ≤ kj23) ∧ Aside0 (w'.heap[gb101]? = some (.cells #[.string a1_0, .int .i64 a1_1, .int .i64 a1_2, .int .i64 a1_3, (.slice A1_4 l1_4.length c1_4), .bool a1_5, .string a1_6] 69 (0, 0))) ∧ Aside0 (Below w.heap.size w w')))
             case atStart => exact ⟨(0), (by first | rfl | (simp; done) | (simp [*]; done)), H', ⟨Nat.le_refl _⟩, ⟨kI BK101⟩, ⟨eI HB⟩⟩
             case round =>
              (clear H'); (try clear c1); (try clear p1); (try clear q1); (try clear hx1); (try clear c2); (try clear p2); (try clear c3); (try clear c4); (try clear c6); (try clear c7); (try clear c10); (try clear p10); (try clear q10); (try clear hx10); (try clear c11); (try clear c16); (try clear c16b0); (try clear c16b1); (try clear c16b2); (try clear c18); (try clear c18b0); (try clear c20); (try clear c20b0); (try clear c21); (try clear c21b0); (try clear c23); (try clear c25); (try clear c25b0); (try clear c25b1); (try clear c28); (try clear c29); (try clear c29b0); (try clear c29b1); (try clear c30); (try clear c30b0); (try clear c31); (try clear c31b0); (try clear c35); (try clear c35b0); (try clear c35b1); (try clear c36); (try clear c36b0); (try clear c37); (try clear c37b0); (try clear c41); (try clear c41b0); (try clear c41b1); (try clear hcz10_0); (try clear hcz10_1); (try clear hcz10_2); (try clear hcz10_3); (try clear hcz10_4); (try clear hcz10_5); (try clear hcz10_6); (try clear hcz14_0); (try clear hcz14_1); (try clear hcz14_2); (try clear hcz14_3); (try clear hcz14_4); (try clear hcz14_5); (try clear hcz14_6); (try clear hcz17_0); (try clear hcz17_1); (try clear hcz17_2); (try clear hcz17_3); (try clear hcz17_4); (try clear hcz17_5); (try clear hcz17_6); (try clear hcz19_0); (try clear hcz19_1); (try clear hcz19_2); (try clear hcz19_3); (try clear hcz19_4); (try clear hcz19_5); (try clear hcz19_6); (try clear hcz22_0); (try clear hcz22_1); (try clear hcz22_2); (try clear hcz22_3); (try clear hcz22_4); (try clear hcz22_5); (try clear hcz22_6); (try clear hcz26_0); (try clear hcz26_1); (try clear hcz26_2); (try clear hcz26_3); (try clear hcz26_4); (try clear hcz26_5); (try clear hcz26_6); (try clear hcz27_0); (try clear hcz27_1); (try clear hcz27_2); (try clear hcz27_3); (try clear hcz27_4); (try clear hcz27_5); (try clear hcz27_6); (try clear hcz32_0); (try clear hcz32_1); (try clear hcz32_2); (try clear hcz32_3); (try clear hcz32_4); (try clear hcz32_5); (try clear hcz32_6); (try clear hcz33_0); (try clear hcz33_1); (try clear hcz33_2); (try clear hcz33_3); (try clear hcz33_4); (try clear hcz33_5); (try clear hcz33_6); (try clear hcz34_0); (try clear hcz34_1); (try clear hcz34_2); (try clear hcz34_3); (try clear hcz34_4); (try clear hcz34_5); (try clear hcz34_6); (try clear hcz38_0); (try clear hcz38_1); (try clear hcz38_2); (try clear hcz38_3); (try clear hcz38_4); (try clear hcz38_5); (try clear hcz38_6); (try clear hcz39_0); (try clear hcz39_1); (try clear hcz39_2); (try clear hcz39_3); (try clear hcz39_4); (try clear hcz39_5); (try clear hcz39_6); (try clear hcz40_0); (try clear hcz40_1); (try clear hcz40_2); (try clear hcz40_3); (try clear hcz40_4); (try clear hcz40_5); (try clear hcz40_6); (try clear hcz42_0); (try clear hcz42_1); (try clear hcz42_2); (try clear hcz42_3); (try clear hcz42_4); (try clear hcz42_5); (try clear hcz42_6); (try clear hcz8_0); (try clear hcz8_1); (try clear hcz8_2); (try clear hcz8_3); (try clear hcz8_4); (try clear hcz8_5); (try clear hcz8_6); (try clear hfz10_0); (try clear hfz10_1); (try clear hfz10_2); (try clear hfz10_3); (try clear hfz10_4); (try clear hfz10_5); (try clear hfz10_6); (try clear hfz14_0); (try clear hfz14_1); (try clear hfz14_2); (try clear hfz14_3); (try clear hfz14_4); (try clear hfz14_5); (try clear hfz14_6); (try clear hfz17_0); (try clear hfz17_1); (try clear hfz17_2); (try clear hfz17_3); (try clear hfz17_4); (try clear hfz17_5); (try clear hfz17_6); (try clear hfz19_0); (try clear hfz19_1); (try clear hfz19_2); (try clear hfz19_3); (try clear hfz19_4); (try clear hfz19_5); (try clear hfz19_6); (try clear hfz22_0); (try clear hfz22_1); (try clear hfz22_2); (try clear hfz22_3); (try clear hfz22_4); (try clear hfz22_5); (try clear hfz22_6); (try clear hfz26_0); (try clear hfz26_1); (try clear hfz26_2); (try clear hfz26_3); (try clear hfz26_4); (try clear hfz26_5); (try clear hfz26_6); (try clear hfz27_0); (try clear hfz27_1); (try clear hfz27_2); (try clear hfz27_3); (try clear hfz27_4); (try clear hfz27_5); (try clear hfz27_6); (try clear hfz32_0); (try clear hfz32_1); (try clear hfz32_2); (try clear hfz32_3); (try clear hfz32_4); (try clear hfz32_5); (try clear hfz32_6); (try clear hfz33_0); (try clear hfz33_1); (try clear hfz33_2); (try clear hfz33_3); (try clear hfz33_4); (try clear hfz33_5); (try clear hfz33_6); (try clear hfz34_0); (try clear hfz34_1); (try clear hfz34_2); (try clear hfz34_3); (try clear hfz34_4); (try clear hfz34_5); (try clear hfz34_6); (try clear hfz38_0); (try clear hfz38_1); (try clear hfz38_2); (try clear hfz38_3); (try clear hfz38_4); (try clear hfz38_5); (try clear hfz38_6); (try clear hfz39_0); (try clear hfz39_1); (try clear hfz39_2); (try clear hfz39_3); (try clear hfz39_4); (try clear hfz39_5); (try clear hfz39_6); (try clear hfz40_0); (try clear hfz40_1); (try clear hfz40_2); (try clear hfz40_3); (try clear hfz40_4); (try clear hfz40_5); (try clear hfz40_6); (try clear hfz42_0); (try clear hfz42_1); (try clear hfz42_2); (try clear hfz42_3); (try clear hfz42_4); (try clear hfz42_5); (try clear hfz42_6); (try clear hfz8_0); (try clear hfz8_1); (try clear hfz8_2); (try clear hfz8_3); (try clear hfz8_4); (try clear hfz8_5); (try clear hfz8_6); (try clear hx105_0); (try clear hx105_1); (try clear hx105_2); (try clear hx105_3); (try clear hx105_4); (try clear hx105_5); (try clear hx105_6); (try clear p1); (try clear p10); (try clear p105); (try clear p2); (try clear q1); (try clear q10); (try clear q105); (obtain ⟨x88_4, rfl, HA, HK4, BK101, HB⟩ := hrel)
              cases gk with
              | zero => exact absurd HA.out (by simp [impl_isField.l0])
              | succ k4 =>
               (have H := HA.out); clear HA; (simp only [impl_isField.l0] at H); (by_cases c43 : x88_4 < (l1_4.length : Int))
               ·rw [if_pos c43] at H
                (have c43b0 := decide_eq_true c43); clear c43; (by_cases c44 : 0 ≤ x88_4)
                ·rw [if_pos c44] at H
                 (have c44b0 := decide_eq_true c44); clear c44; (by_cases c45 : x88_4 < (l1_4.length : Int))
                 ·rw [if_pos c45] at H
                  (have c45b0 := decide_eq_true c45); clear c45; (replace H := obS H); (obtain ⟨t108, A46, H⟩ := H); (by_cases c47 : t108 = true)
                  ·subst c47
                   (rw [if_pos rfl] at H); (have c48b0 := eq_true (odt : 0 ≤ x88_4)); (by_cases c49 : x88_4 ≤ (l1_4.length : Int))
                   ·rw [if_pos c49] at H
                    (have c49b0 := eq_true c49); (have c49b1 := decide_eq_true c49); clear c49; (replace H := obS H); (obtain ⟨t110, A50, H⟩ := H); (by_cases c51 : t110 = true)
                    ·subst c51
                     (rw [if_pos rfl] at H); (obtain rfl := Option.some.inj H); (have p107 : 0 ≤ (x88_4 : Int) := odt); (have q107 : x88_4 < (l1_4.length : Int) := odt); (obtain ⟨ad107, e107, hx107_0⟩ := Kd.at_string HR1_4.out x88_4 p107 q107); (cases e107); (replace hx107_0 := hcI HB hx107_0); (replace p107 := eq_true p107); (replace q107 := eq_true q107); (go_wp2_with (first | ((with_reducible refine gate_callee (f := 103) rfl ?_); refine gL (some 94) Tryd.func103 #[.string (rdOf ByteArray.empty l1_4 x88_4)] ?_; (with_reducible refine (impl_isName.calls k4 (rdOf ByteArray.empty l1_4 x88_4) true _ A46.out).mono ?_); rintro e w' ⟨rfl, ⟨nd, rfl⟩⟩; refine ⟨_, rfl, ?_⟩; have hcz52_0 := cz BK101.out 0; have hcz52_1 := cz BK101.out 1; have hcz52_2 := cz BK101.out 2; have hcz52_3 := cz BK101.out 3; have hcz52_4 := cz BK101.out 4; have hcz52_5 := cz BK101.out 5; have hcz52_6 := cz BK101.out 6; have hfz52_0 := blk_frozen BK101.out 0; have hfz52_1 := blk_frozen BK101.out 1; have hfz52_2 := blk_frozen BK101.out 2; have hfz52_3 := blk_frozen BK101.out 3; have hfz52_4 := blk_frozen BK101.out 4; have hfz52_5 := blk_frozen BK101.out 5; have hfz52_6 := blk_frozen BK101.out 6; obtain ⟨i053, hi053, _, hsz53, _⟩ := info_parts info9; obtain ⟨hcut53, hA53, hC53⟩ := print_take_of (P := Tryd.prog) Value.string (⟨#[]⟩ : ByteArray) 51 9 .i64 Tryd.underlying51 hi053 hsz53 (some ad107) c1_4 l1_4 x88_4 odt odt HC1_4.out; have HR109 := Aside0.mk (Kd.C_of_reads (h1 := fun _ => rfl) (hA53 _ (Kd.reads_of_C HR1_4.out))); have HC109 := Aside0.mk hC53; clear hA53 hC53 hi053 hsz53) | (go_at_call 47; refine calls_of_args (args' := #[.slice (some ad107) (l1_4.take (x88_4 : Int).toNat).length c1_4, .string (rdOf ByteArray.empty l1_4 x88_4)]) (by first | (rw [show (l1_4.take (x88_4 : Int).toNat).length = x88_4.toNat from (by rw [List.length_take]; have h_ : (x88_4 : Int) ≤ (l1_4.length : Int) := odt; omega)] <;> rfl) | rfl) ?_; (with_reducible refine (slices_Contains_string_string.calls k4 _ _ (l1_4.take (x88_4 : Int).toNat) (rdOf ByteArray.empty l1_4 x88_4) true _ ?side1 ?side2 A50.out).mono ?_); (case side1 => exact Kd.C_below HR109.out (eI HB)); (case side2 => exact HC109.out); rintro e w' ⟨rfl, ⟨nd, rfl⟩⟩))); go_ret; (exact ⟨rfl, eI HB⟩)
                    ·replace c51 := Bool.eq_false_iff.mpr c51
                     subst c51; (rw [if_neg (show ¬ (false = true) by decide)] at H); (have H' := Aside0.mk H); clear H; (have p107 : 0 ≤ (x88_4 : Int) := odt); (have q107 : x88_4 < (l1_4.length : Int) := odt); (obtain ⟨ad107, e107, hx107_0⟩ := Kd.at_string HR1_4.out x88_4 p107 q107); (cases e107); (replace hx107_0 := hcI HB hx107_0); (replace p107 := eq_true p107); (replace q107 := eq_true q107); (go_wp2_with (first | ((with_reducible refine gate_callee (f := 103) rfl ?_); refine gL (some 94) Tryd.func103 #[.string (rdOf ByteArray.empty l1_4 x88_4)] ?_; (with_reducible refine (impl_isName.calls k4 (rdOf ByteArray.empty l1_4 x88_4) true _ A46.out).mono ?_); rintro e w' ⟨rfl, ⟨nd, rfl⟩⟩; refine ⟨_, rfl, ?_⟩; have hcz54_0 := cz BK101.out 0; have hcz54_1 := cz BK101.out 1; have hcz54_2 := cz BK101.out 2; have hcz54_3 := cz BK101.out 3; have hcz54_4 := cz BK101.out 4; have hcz54_5 := cz BK101.out 5; have hcz54_6 := cz BK101.out 6; have hfz54_0 := blk_frozen BK101.out 0; have hfz54_1 := blk_frozen BK101.out 1; have hfz54_2 := blk_frozen BK101.out 2; have hfz54_3 := blk_frozen BK101.out 3; have hfz54_4 := blk_frozen BK101.out 4; have hfz54_5 := blk_frozen BK101.out 5; have hfz54_6 := blk_frozen BK101.out 6; obtain ⟨i055, hi055, _, hsz55, _⟩ := info_parts info9; obtain ⟨hcut55, hA55, hC55⟩ := print_take_of (P := Tryd.prog) Value.string (⟨#[]⟩ : ByteArray) 51 9 .i64 Tryd.underlying51 hi055 hsz55 (some ad107) c1_4 l1_4 x88_4 odt odt HC1_4.out; have HR109 := Aside0.mk (Kd.C_of_reads (h1 := fun _ => rfl) (hA55 _ (Kd.reads_of_C HR1_4.out))); have HC109 := Aside0.mk hC55; clear hA55 hC55 hi055 hsz55) | (go_at_call 47; refine calls_of_args (args' := #[.slice (some ad107) (l1_4.take (x88_4 : Int).toNat).length c1_4, .string (rdOf ByteArray.empty l1_4 x88_4)]) (by first | (rw [show (l1_4.take (x88_4 : Int).toNat).length = x88_4.toNat from (by rw [List.length_take]; have h_ : (x88_4 : Int) ≤ (l1_4.length : Int) := odt; omega)] <;> rfl) | rfl) ?_; (with_reducible refine (slices_Contains_string_string.calls k4 _ _ (l1_4.take (x88_4 : Int).toNat) (rdOf ByteArray.empty l1_4 x88_4) false _ ?side1 ?side2 A50.out).mono ?_); (case side1 => exact Kd.C_below HR109.out (eI HB)); (case side2 => exact HC109.out); rintro e w' ⟨rfl, ⟨nd, rfl⟩⟩))); go_roundg k4
                     case measure => have := HJ2.out; have := HJ12.out; have := HJ23.out; have := HK4.out; omega
                     case rel => exact ⟨(wrap64 (x88_4 + 1)), (by first | rfl | (simp; done) | (simp [*]; done)), H', ⟨by have := HJ2.out; have := HJ12.out; have := HJ23.out; have := HK4.out; omega⟩, ⟨kI BK101⟩, ⟨eI HB⟩⟩
                   ·rw [if_neg c49] at H
                    exact absurd H (by simp)
                  ·replace c47 := Bool.eq_false_iff.mpr c47
                   subst c47; (rw [if_neg (show ¬ (false = true) by decide)] at H); (obtain rfl := Option.some.inj H); (have p107 : 0 ≤ (x88_4 : Int) := odt); (have q107 : x88_4 < (l1_4.length : Int) := odt); (obtain ⟨ad107, e107, hx107_0⟩ := Kd.at_string HR1_4.out x88_4 p107 q107); (cases e107); (replace hx107_0 := hcI HB hx107_0); (replace p107 := eq_true p107); (replace q107 := eq_true q107); (go_wp2_with (first | ((with_reducible refine gate_callee (f := 103) rfl ?_); refine gL (some 94) Tryd.func103 #[.string (rdOf ByteArray.empty l1_4 x88_4)] ?_; (with_reducible refine (impl_isName.calls k4 (rdOf ByteArray.empty l1_4 x88_4) false _ A46.out).mono ?_); rintro e w' ⟨rfl, ⟨nd, rfl⟩⟩; refine ⟨_, rfl, ?_⟩))); go_ret; (exact ⟨rfl, eI HB⟩)
                 ·rw [if_neg c45] at H
                  exact absurd H (by simp)
                ·rw [if_neg c44] at H
                 exact absurd H (by simp)
               ·rw [if_neg c43] at H
                (have c43b0 := decide_eq_false c43); clear c43; (replace H := obS H); (obtain ⟨t106, A56, H⟩ := H); (by_cases c57 : t106 = true)
                ·subst c57
                 (rw [if_pos rfl] at H); (by_cases c58 : a1_2 = 0)
                 ·rw [if_pos c58] at H
                  (have c58b0 : (a1_2 == 0) = true := beq_iff_eq.mpr c58); (have c58b1 : (a1_2 != 0) = false := bne_eq_false_iff_eq.mpr c58); clear c58; (obtain rfl := Option.some.inj H); (have hcz59_0 := cz BK101.out 0); (have hcz59_1 := cz BK101.out 1); (have hcz59_2 := cz BK101.out 2); (have hcz59_3 := cz BK101.out 3); (have hcz59_4 := cz BK101.out 4); (have hcz59_5 := cz BK101.out 5); (have hcz59_6 := cz BK101.out 6); (have hfz59_0 := blk_frozen BK101.out 0); (have hfz59_1 := blk_frozen BK101.out 1); (have hfz59_2 := blk_frozen BK101.out 2); (have hfz59_3 := blk_frozen BK101.out 3); (have hfz59_4 := blk_frozen BK101.out 4); (have hfz59_5 := blk_frozen BK101.out 5); (have hfz59_6 := blk_frozen BK101.out 6); (go_wp2_with (first | ((with_reducible refine gate_callee (f := 104) rfl ?_); refine gL (some 108) Tryd.func104 #[.int .i64 (l1_4.length : Int), .int .i64 1, .int .i64 6] ?_; (with_reducible refine (impl_within.calls (l1_4.length : Int) 1 6 true _ A56.out).mono ?_); rintro e w' ⟨rfl, ⟨nd, rfl⟩⟩; refine ⟨_, rfl, ?_⟩))); go_ret; (exact ⟨rfl, eI HB⟩)
                 ·rw [if_neg c58] at H
                  (have c58b0 : (a1_2 == 0) = false := beq_eq_false_iff_ne.mpr c58); (have c58b1 : (a1_2 != 0) = true := bne_iff_ne.mpr c58); (obtain rfl := Option.some.inj H); (have hcz60_0 := cz BK101.out 0); (have hcz60_1 := cz BK101.out 1); (have hcz60_2 := cz BK101.out 2); (have hcz60_3 := cz BK101.out 3); (have hcz60_4 := cz BK101.out 4); (have hcz60_5 := cz BK101.out 5); (have hcz60_6 := cz BK101.out 6); (have hfz60_0 := blk_frozen BK101.out 0); (have hfz60_1 := blk_frozen BK101.out 1); (have hfz60_2 := blk_frozen BK101.out 2); (have hfz60_3 := blk_frozen BK101.out 3); (have hfz60_4 := blk_frozen BK101.out 4); (have hfz60_5 := blk_frozen BK101.out 5); (have hfz60_6 := blk_frozen BK101.out 6); (go_wp2_with (first | ((with_reducible refine gate_callee (f := 104) rfl ?_); refine gL (some 108) Tryd.func104 #[.int .i64 (l1_4.length : Int), .int .i64 1, .int .i64 6] ?_; (with_reducible refine (impl_within.calls (l1_4.length : Int) 1 6 true _ A56.out).mono ?_); rintro e w' ⟨rfl, ⟨nd, rfl⟩⟩; refine ⟨_, rfl, ?_⟩))); go_ret; (exact ⟨rfl, eI HB⟩)
                ·replace c57 := Bool.eq_false_iff.mpr c57
                 subst c57; (rw [if_neg (show ¬ (false = true) by decide)] at H); (obtain rfl := Option.some.inj H); (have hcz61_0 := cz BK101.out 0); (have hcz61_1 := cz BK101.out 1); (have hcz61_2 := cz BK101.out 2); (have hcz61_3 := cz BK101.out 3); (have hcz61_4 := cz BK101.out 4); (have hcz61_5 := cz BK101.out 5); (have hcz61_6 := cz BK101.out 6); (have hfz61_0 := blk_frozen BK101.out 0); (have hfz61_1 := blk_frozen BK101.out 1); (have hfz61_2 := blk_frozen BK101.out 2); (have hfz61_3 := blk_frozen BK101.out 3); (have hfz61_4 := blk_frozen BK101.out 4); (have hfz61_5 := blk_frozen BK101.out 5); (have hfz61_6 := blk_frozen BK101.out 6); (go_wp2_with (first | ((with_reducible refine gate_callee (f := 104) rfl ?_); refine gL (some 108) Tryd.func104 #[.int .i64 (l1_4.length : Int), .int .i64 1, .int .i64 6] ?_; (with_reducible refine (impl_within.calls (l1_4.length : Int) 1 6 false _ A56.out).mono ?_); rintro e w' ⟨rfl, ⟨nd, rfl⟩⟩; refine ⟨_, rfl, ?_⟩))); go_ret; (exact ⟨rfl, eI HB⟩)
            ·rw [if_neg c41] at H
             (have c41b0 : (a1_1 == 3) = false := beq_eq_false_iff_ne.mpr c41); (have c41b1 : (a1_1 != 3) = true := bne_iff_ne.mpr c41); (by_cases c62 : a1_1 = 4)
             ·rw [if_pos c62] at H
              (have c62b0 : (a1_1 == 4) = true := beq_iff_eq.mpr c62); (have c62b1 : (a1_1 != 4) = false := bne_eq_false_iff_eq.mpr c62); clear c62; (by_cases c63 : a1_2 = 0)
              ·rw [if_pos c63] at H
               (have c63b0 : (a1_2 == 0) = true := beq_iff_eq.mpr c63); (have c63b1 : (a1_2 != 0) = false := bne_eq_false_iff_eq.mpr c63); clear c63; (obtain rfl := Option.some.inj H); (have hcz64_0 := cz BK101.out 0); (have hcz64_1 := cz BK101.out 1); (have hcz64_2 := cz BK101.out 2); (have hcz64_3 := cz BK101.out 3); (have hcz64_4 := cz BK101.out 4); (have hcz64_5 := cz BK101.out 5); (have hcz64_6 := cz BK101.out 6); (have hfz64_0 := blk_frozen BK101.out 0); (have hfz64_1 := blk_frozen BK101.out 1); (have hfz64_2 := blk_frozen BK101.out 2); (have hfz64_3 := blk_frozen BK101.out 3); (have hfz64_4 := blk_frozen BK101.out 4); (have hfz64_5 := blk_frozen BK101.out 5); (have hfz64_6 := blk_frozen BK101.out 6); (go_wp2); go_ret; (exact ⟨rfl, eI HB⟩)
              ·rw [if_neg c63] at H
               (have c63b0 : (a1_2 == 0) = false := beq_eq_false_iff_ne.mpr c63); (have c63b1 : (a1_2 != 0) = true := bne_iff_ne.mpr c63); (obtain rfl := Option.some.inj H); (have hcz65_0 := cz BK101.out 0); (have hcz65_1 := cz BK101.out 1); (have hcz65_2 := cz BK101.out 2); (have hcz65_3 := cz BK101.out 3); (have hcz65_4 := cz BK101.out 4); (have hcz65_5 := cz BK101.out 5); (have hcz65_6 := cz BK101.out 6); (have hfz65_0 := blk_frozen BK101.out 0); (have hfz65_1 := blk_frozen BK101.out 1); (have hfz65_2 := blk_frozen BK101.out 2); (have hfz65_3 := blk_frozen BK101.out 3); (have hfz65_4 := blk_frozen BK101.out 4); (have hfz65_5 := blk_frozen BK101.out 5); (have hfz65_6 := blk_frozen BK101.out 6); (go_wp2); go_ret; (exact ⟨rfl, eI HB⟩)
             ·rw [if_neg c62] at H
              (have c62b0 : (a1_1 == 4) = false := beq_eq_false_iff_ne.mpr c62); (have c62b1 : (a1_1 != 4) = true := bne_iff_ne.mpr c62); (obtain rfl := Option.some.inj H); (have hcz66_0 := cz BK101.out 0); (have hcz66_1 := cz BK101.out 1); (have hcz66_2 := cz BK101.out 2); (have hcz66_3 := cz BK101.out 3); (have hcz66_4 := cz BK101.out 4); (have hcz66_5 := cz BK101.out 5); (have hcz66_6 := cz BK101.out 6); (have hfz66_0 := blk_frozen BK101.out 0); (have hfz66_1 := blk_frozen BK101.out 1); (have hfz66_2 := blk_frozen BK101.out 2); (have hfz66_3 := blk_frozen BK101.out 3); (have hfz66_4 := blk_frozen BK101.out 4); (have hfz66_5 := blk_frozen BK101.out 5); (have hfz66_6 := blk_frozen BK101.out 6); (go_wp2); go_ret; (exact ⟨rfl, eI HB⟩)
/-! ### impl_IsValidForm: function 37 -/
def impl_IsValidForm.l0 : Nat → List (S69) → List (S69) → Int → Int → Option (Bool)
 | 0, _, _, _, _ => none
 | k + 1, x0, x5, x6, x7 => if x7 < x6 then (if 0 ≤ x7 then (if x7 < (x5.length : Int) then (if x7 ≤ (x0.length : Int) then ((impl_isField.f k (x0.take (x7 : Int).toNat) ((rd_T69 x5 x7).f0) ((rd_T69 x5 x7).f1) ((rd_T69 x5 x7).f2) ((rd_T69 x5 x7).f3) ((rd_T69 x5 x7).f4) ((rd_T69 x5 x7).f5) ((rd_T69 x5 x7).f6)).bind fun t107 => (if t107 = true then (impl_IsValidForm.l0 k x0 x5 x6 (wrap64 (x7 + 1))) else (some false))) else (none)) else (none)) else (none)) else (some (decide ((x0.length : Int) ≤ 10)))
def impl_IsValidForm.f (k : Nat) (l0 : List (S69)) : Option (Bool) := impl_IsValidForm.l0 k l0 l0 (l0.length : Int) 0
set_option maxHeartbeats 8000000 in
set_option maxRecDepth 100000 in
theorem impl_IsValidForm.calls (k : Nat) (A0 : Option Addr) (c0 : Nat) (l0 : List (S69)) (r : Bool) (w : World) (hr0 : Kd.C k69 w A0 l0.length l0) (hc0 : l0.length ≤ c0) (h : impl_IsValidForm.f k l0 = some r) :
  Calls Tryd.prog 37 #[.slice A0 l0.length c0] w fun e w' => e = .returned (.bool r) ∧ Below w.heap.size w w' := by
 (have hu69 := Tryd.underlying69); (have HR0 := Aside0.mk hr0); (have HC0 := Aside0.mk hc0); clear hr0 hc0; (have HB := Aside0.mk (Below.refl w.heap.size w)); (unfold impl_IsValidForm.f at h); (have H := h); clear h; (have H' := Aside0.mk H); clear H; (go_enter Tryd.func37, Tryd.ntmps37); (go_wp2); (go_loopg [7] k (fun kq v7 w' => ∃ (x7_1 : Int), v7 = .int .i64 x7_1 ∧ Aside0 (impl_IsValidForm.l0 kq l0 l0 (l0.length : Int) x7_1 = some r) ∧ Aside0 (kq ≤ k) ∧ Aside0 (Below w.heap.size w w')))
 case atStart => exact ⟨(0), (by first | rfl | (simp; done) | (simp [*]; done)), H', ⟨Nat.le_refl _⟩, ⟨eI HB⟩⟩
 case round =>
  (clear H'); (obtain ⟨x7_1, rfl, HA, HK1, HB⟩ := hrel)
  cases gk with
  | zero => exact absurd HA.out (by simp [impl_IsValidForm.l0])
  | succ k1 =>
   (have H := HA.out); clear HA; (simp only [impl_IsValidForm.l0] at H); (by_cases c2 : x7_1 < (l0.length : Int))
   ·rw [if_pos c2] at H
    (have c2b0 := decide_eq_true c2); clear c2; (by_cases c3 : 0 ≤ x7_1)
    ·rw [if_pos c3] at H
     (have c3b0 := decide_eq_true c3); clear c3; (by_cases c4 : x7_1 < (l0.length : Int))
     ·rw [if_pos c4] at H
      (have c4b0 := decide_eq_true c4); clear c4; (have c5b0 := eq_true (odt : 0 ≤ x7_1)); (by_cases c6 : x7_1 ≤ (l0.length : Int))
      ·rw [if_pos c6] at H
       (have c6b0 := eq_true c6); (have c6b1 := decide_eq_true c6); clear c6; (obtain ⟨y103, hy103⟩ : ∃ y_ : List (S69), y_ = (l0.take (x7_1 : Int).toNat) := ⟨_, rfl⟩); (replace H : ((impl_isField.f k1 y103 ((rd_T69 l0 x7_1).f0) ((rd_T69 l0 x7_1).f1) ((rd_T69 l0 x7_1).f2) ((rd_T69 l0 x7_1).f3) ((rd_T69 l0 x7_1).f4) ((rd_T69 l0 x7_1).f5) ((rd_T69 l0 x7_1).f6)).bind fun t107 => (if t107 = true then (impl_IsValidForm.l0 k1 l0 l0 (l0.length : Int) (wrap64 (x7_1 + 1))) else (some false))) = some r := by first | (rw [hy103]; with_reducible exact H) | (have H2_ := (Option.bind_some _ _).symm.trans H; rw [hy103]; with_reducible exact H2_) | (have H2_ := (Option.bind_some _ _).symm.trans H; with_reducible exact H2_) | with_reducible exact H | (rw [hy103]; exact H) | exact H); (have Ny103 := Aside0.mk hy103); clear hy103; (replace H := obS H); (obtain ⟨t107, A7, H⟩ := H); (by_cases c8 : t107 = true)
       ·subst c8
        (rw [if_pos rfl] at H); (have H' := Aside0.mk H); clear H; (have p101 : 0 ≤ (x7_1 : Int) := odt); (have q101 : x7_1 < (l0.length : Int) := odt); (obtain ⟨ad101, A101_4, c101_4, e101, hx101_0, hx101_1, hx101_2, hx101_3, hx101_4, hx101_5, hx101_6, hl101_4, hi101_4⟩ := at_T69 HR0.out x7_1 p101 q101); (cases e101); (replace hx101_0 := hcI HB hx101_0); (replace hx101_1 := hcI HB hx101_1); (replace hx101_2 := hcI HB hx101_2); (replace hx101_3 := hcI HB hx101_3); (replace hx101_4 := hcI HB hx101_4); (replace hx101_5 := hcI HB hx101_5); (replace hx101_6 := hcI HB hx101_6); (have HR101_4 := Aside0.mk hi101_4); (have HC101_4 := Aside0.mk hl101_4); clear hi101_4 hl101_4; (replace p101 := eq_true p101); (replace q101 := eq_true q101); (try go_wp2_with (first | ((with_reducible refine gate_dst (N := 4) rfl ?_); refine box_event ?hg (N := 4) ?hd (cs := #[.string (⟨#[]⟩ : ByteArray), .int .i64 0, .int .i64 0, .int .i64 0, .slice none 0 0, .bool false, .string (⟨#[]⟩ : ByteArray)]) (t := 69) ?hr ?_; (case hd => rfl); (case hg => rfl); (case hr => first | (go_simp; done) | (go_simp; rfl)); intro gb102 hg w9 hbox hb; have hB_ := zI hb HB; have n0_ := Aside0.mk (below_step hB_ hb); have n1_ := Aside0.mk (hbox); have n2_ := Aside0.mk (bx0 hg hB_); have n3_ := n2_; clear HB; have HB := n0_; have BK102 := n1_; have GW102 := n2_; have GE102 := n3_; clear n0_ n1_ n2_ n3_ hB_ hb hbox hg; have hcz10_0 := cz BK102.out 0; have hcz10_1 := cz BK102.out 1; have hcz10_2 := cz BK102.out 2; have hcz10_3 := cz BK102.out 3; have hcz10_4 := cz BK102.out 4; have hcz10_5 := cz BK102.out 5; have hcz10_6 := cz BK102.out 6; have hfz10_0 := blk_frozen BK102.out 0; have hfz10_1 := blk_frozen BK102.out 1; have hfz10_2 := blk_frozen BK102.out 2; have hfz10_3 := blk_frozen BK102.out 3; have hfz10_4 := blk_frozen BK102.out 4; have hfz10_5 := blk_frozen BK102.out 5; have hfz10_6 := blk_frozen BK102.out 6))); (have n0_ : Aside0 ((((((((w9.setCell ⟨gb102, 0, none⟩ (.string ((rd_T69 l0 x7_1).f0))).setCell ⟨gb102, 1, none⟩ (.int .i64 ((rd_T69 l0 x7_1).f1))).setCell ⟨gb102, 2, none⟩ (.int .i64 ((rd_T69 l0 x7_1).f2))).setCell ⟨gb102, 3, none⟩ (.int .i64 ((rd_T69 l0 x7_1).f3))).setCell ⟨gb102, 4, none⟩ (.slice A101_4 ((rd_T69 l0 x7_1).f4).length c101_4)).setCell ⟨gb102, 5, none⟩ (.bool ((rd_T69 l0 x7_1).f5))).setCell ⟨gb102, 6, none⟩ (.string ((rd_T69 l0 x7_1).f6))).heap[gb102]? = some (.cells #[.string ((rd_T69 l0 x7_1).f0), .int .i64 ((rd_T69 l0 x7_1).f1), .int .i64 ((rd_T69 l0 x7_1).f2), .int .i64 ((rd_T69 l0 x7_1).f3), .slice A101_4 ((rd_T69 l0 x7_1).f4).length c101_4, .bool ((rd_T69 l0 x7_1).f5), .string ((rd_T69 l0 x7_1).f6)] 69 (0, 0))) := ⟨by (with_reducible repeat (first | refine kN ?_ _ | refine kD ?_ | refine kA ?_ _)); refine blk_put (cs := #[.string ((rd_T69 l0 x7_1).f0), .int .i64 ((rd_T69 l0 x7_1).f1), .int .i64 ((rd_T69 l0 x7_1).f2), .int .i64 ((rd_T69 l0 x7_1).f3), .slice A101_4 ((rd_T69 l0 x7_1).f4).length c101_4, .bool ((rd_T69 l0 x7_1).f5), .string (⟨#[]⟩ : ByteArray)]) ?_ 6 _ rfl; (with_reducible repeat (first | refine kN ?_ _ | refine kD ?_ | refine kA ?_ _)); refine blk_put (cs := #[.string ((rd_T69 l0 x7_1).f0), .int .i64 ((rd_T69 l0 x7_1).f1), .int .i64 ((rd_T69 l0 x7_1).f2), .int .i64 ((rd_T69 l0 x7_1).f3), .slice A101_4 ((rd_T69 l0 x7_1).f4).length c101_4, .bool false, .string (⟨#[]⟩ : ByteArray)]) ?_ 5 _ rfl; (with_reducible repeat (first | refine kN ?_ _ | refine kD ?_ | refine kA ?_ _)); refine blk_put (cs := #[.string ((rd_T69 l0 x7_1).f0), .int .i64 ((rd_T69 l0 x7_1).f1), .int .i64 ((rd_T69 l0 x7_1).f2), .int .i64 ((rd_T69 l0 x7_1).f3), .slice none 0 0, .bool false, .string (⟨#[]⟩ : ByteArray)]) ?_ 4 _ rfl; (with_reducible repeat (first | refine kN ?_ _ | refine kD ?_ | refine kA ?_ _)); refine blk_put (cs := #[.string ((rd_T69 l0 x7_1).f0), .int .i64 ((rd_T69 l0 x7_1).f1), .int .i64 ((rd_T69 l0 x7_1).f2), .int .i64 0, .slice none 0 0, .bool false, .string (⟨#[]⟩ : ByteArray)]) ?_ 3 _ rfl; (with_reducible repeat (first | refine kN ?_ _ | refine kD ?_ | refine kA ?_ _)); refine blk_put (cs := #[.string ((rd_T69 l0 x7_1).f0), .int .i64 ((rd_T69 l0 x7_1).f1), .int .i64 0, .int .i64 0, .slice none 0 0, .bool false, .string (⟨#[]⟩ : ByteArray)]) ?_ 2 _ rfl; (with_reducible repeat (first | refine kN ?_ _ | refine kD ?_ | refine kA ?_ _)); refine blk_put (cs := #[.string ((rd_T69 l0 x7_1).f0), .int .i64 0, .int .i64 0, .int .i64 0, .slice none 0 0, .bool false, .string (⟨#[]⟩ : ByteArray)]) ?_ 1 _ rfl; (with_reducible repeat (first | refine kN ?_ _ | refine kD ?_ | refine kA ?_ _)); refine blk_put (cs := #[.string (⟨#[]⟩ : ByteArray), .int .i64 0, .int .i64 0, .int .i64 0, .slice none 0 0, .bool false, .string (⟨#[]⟩ : ByteArray)]) ?_ 0 _ rfl; (with_reducible repeat (first | refine kN ?_ _ | refine kD ?_ | refine kA ?_ _)); exact BK102.out⟩)
        (have n1_ : Aside0 (Below w.heap.size w (((((((w9.setCell ⟨gb102, 0, none⟩ (.string ((rd_T69 l0 x7_1).f0))).setCell ⟨gb102, 1, none⟩ (.int .i64 ((rd_T69 l0 x7_1).f1))).setCell ⟨gb102, 2, none⟩ (.int .i64 ((rd_T69 l0 x7_1).f2))).setCell ⟨gb102, 3, none⟩ (.int .i64 ((rd_T69 l0 x7_1).f3))).setCell ⟨gb102, 4, none⟩ (.slice A101_4 ((rd_T69 l0 x7_1).f4).length c101_4)).setCell ⟨gb102, 5, none⟩ (.bool ((rd_T69 l0 x7_1).f5))).setCell ⟨gb102, 6, none⟩ (.string ((rd_T69 l0 x7_1).f6)))) := ⟨by repeat (first | (with_reducible first | exact HB.out | apply bA | apply bN | apply bD | refine below_set ?_ GE102.out) | exact HB.out)⟩); ((try clear BK102)); ((try clear HB)); (generalize (((((((w9.setCell ⟨gb102, 0, none⟩ (.string ((rd_T69 l0 x7_1).f0))).setCell ⟨gb102, 1, none⟩ (.int .i64 ((rd_T69 l0 x7_1).f1))).setCell ⟨gb102, 2, none⟩ (.int .i64 ((rd_T69 l0 x7_1).f2))).setCell ⟨gb102, 3, none⟩ (.int .i64 ((rd_T69 l0 x7_1).f3))).setCell ⟨gb102, 4, none⟩ (.slice A101_4 ((rd_T69 l0 x7_1).f4).length c101_4)).setCell ⟨gb102, 5, none⟩ (.bool ((rd_T69 l0 x7_1).f5))).setCell ⟨gb102, 6, none⟩ (.string ((rd_T69 l0 x7_1).f6))) = w11 at n0_ n1_ ⊢); (have BK102 := n0_); (have HB := n1_); clear n0_ n1_; (have n0_ := Aside0.mk (blk_drew BK102.out)); (have n1_ := Aside0.mk (below_drew1 HB.out)); clear BK102 HB; (have BK102 := n0_); (have HB := n1_); clear n0_ n1_; (have q13 : (x7_1 : Int) ≤ ((l0.length : Int) : Int) := odt); (obtain ⟨i013, hi013, _, hsz13, _⟩ := info_parts info69); (have hroom13 : l0.length ≤ c0 := HC0.out); (have hC13 : Kd.C k69 _ (some ad101) l0.length l0 := HR0.out); (have hcut13 := cut_to (P := Tryd.prog) 26 69 .i64 Tryd.underlying26 hi013 (some ad101) l0.length c0 x7_1 odt q13 hroom13); (have hr13 := Kd.C_take (m := (x7_1 : Int).toNat) hC13 (by omega)); (have hy13 : y103.length = (x7_1 : Int).toNat := (by rw [Ny103.out, List.length_take]; omega)); (rw [← Ny103.out] at hr13); (rw [← hy13] at hcut13); (have HR106 := Aside0.mk hr13); (have HC106 := Aside0.mk (show y103.length ≤ c0 from by omega)); clear hr13 hC13 hroom13 hi013 hsz13; (have KY13 := Aside0.mk hy13); clear hy13; (replace q13 := eq_true q13); (refine start_ (n := 6) (S := fun w' => w'.cell? ⟨gb102, 0, none⟩ = some (.string ((rd_T69 l0 x7_1).f0)) ∧ w'.cell? ⟨gb102, 1, none⟩ = some (.int .i64 ((rd_T69 l0 x7_1).f1)) ∧ w'.cell? ⟨gb102, 2, none⟩ = some (.int .i64 ((rd_T69 l0 x7_1).f2)) ∧ w'.cell? ⟨gb102, 3, none⟩ = some (.int .i64 ((rd_T69 l0 x7_1).f3)) ∧ w'.cell? ⟨gb102, 4, none⟩ = some (.slice A101_4 ((rd_T69 l0 x7_1).f4).length c101_4) ∧ w'.cell? ⟨gb102, 5, none⟩ = some (.bool ((rd_T69 l0 x7_1).f5)) ∧ w'.cell? ⟨gb102, 6, none⟩ = some (.string ((rd_T69 l0 x7_1).f6))) (ds := []) (cn 6 0) (by kernel_rfl) rfl (by kernel_rfl) ⟨cz BK102.out 0, cz BK102.out 1, cz BK102.out 2, cz BK102.out 3, cz BK102.out 4, cz BK102.out 5, cz BK102.out 6⟩ (fun hHeld => ?_)); (generalize w11.drew = w12 at BK102 HB HR106 hHeld ⊢); (refine pure_ (i := 0) (N := some 12) (v := ?_) (a' := ?_) (cn 6 1) rfl rfl (by kernel_rfl) (fun _ _ _ h => h) (Or.inl ⟨by rfl, ?_⟩) ?_ ?_); rotate_left; (· intro w'; go_simp; with_reducible rfl); rotate_left; (· (simp only [Act.put, aS1, aS2, aS3, i64_w, i32_w]); rfl); (refine pure_ (i := 1) (N := some 13) (v := ?_) (a' := ?_) (cn 6 2) rfl rfl (by kernel_rfl) (fun _ _ _ h => h) (Or.inl ⟨by rfl, ?_⟩) ?_ ?_); rotate_left; (· intro w'; go_simp; with_reducible rfl); rotate_left; (· (simp only [Act.put, aS1, aS2, aS3, i64_w, i32_w]); rfl); (refine pure_ (i := 2) (N := some 14) (v := ?_) (a' := ?_) (cn 6 3) rfl rfl (by kernel_rfl) (fun _ _ _ h => h) (Or.inl ⟨by rfl, ?_⟩) ?_ ?_); rotate_left; (· intro w'; go_simp; with_reducible rfl); rotate_left; (· (simp only [Act.put, aS1, aS2, aS3, i64_w, i32_w]); rfl); (refine take_ (i := 3) (N := some 15) (v := ?_) (a' := ?_) (cn 6 4) rfl rfl (by kernel_rfl) (fun _ _ _ h => h) (Or.inl ⟨by rfl, ?_⟩) hHeld ?_ ?_); rotate_left; (· (rintro w' ⟨s0, s1, s2, s3, s4, s5, s6⟩); go_simp; with_reducible rfl); rotate_left; (· (simp only [Act.put, aS1, aS2, aS3, i64_w, i32_w]); rfl); (refine one_ (i := 4) (N := some 16) (cn 6 5) rfl rfl (by kernel_rfl) (by decide) (fun K hK => ?_)); (refine gG Tryd.func74 #[.slice (some ad101) y103.length c0, .agg #[.string ((rd_T69 l0 x7_1).f0), .int .i64 ((rd_T69 l0 x7_1).f1), .int .i64 ((rd_T69 l0 x7_1).f2), .int .i64 ((rd_T69 l0 x7_1).f3), .slice A101_4 ((rd_T69 l0 x7_1).f4).length c101_4, .bool ((rd_T69 l0 x7_1).f5), .string ((rd_T69 l0 x7_1).f6)]] ?_); (with_reducible refine (impl_isField.calls k1 _ _ y103 ((rd_T69 l0 x7_1).f0) ((rd_T69 l0 x7_1).f1) ((rd_T69 l0 x7_1).f2) ((rd_T69 l0 x7_1).f3) _ _ ((rd_T69 l0 x7_1).f4) ((rd_T69 l0 x7_1).f5) ((rd_T69 l0 x7_1).f6) true _ ?side1 ?side2 ?side3 ?side4 A7.out).mono ?_); ((case side1 => exact Kd.C_below HR106.out (eI HB))); ((case side2 => exact HC106.out)); ((case side3 => exact Kd.C_below HR101_4.out (eI HB))); ((case side4 => exact HC101_4.out)); (rintro e w14 ⟨rfl, hb⟩); (refine ⟨_, rfl, ?_⟩)
        (have n0_ := Aside0.mk (kbI hb BK102)); (have n1_ := Aside0.mk (sI hb HB)); clear BK102 HB; (have BK102 := n0_); (have HB := n1_); clear n0_ n1_; ((try clear hb)); ((try clear hb2)); ((try clear hk)); ((try clear hi)); (refine hK.out _ _ ⟨cz BK102.out 0, cz BK102.out 1, cz BK102.out 2, cz BK102.out 3, cz BK102.out 4, cz BK102.out 5, cz BK102.out 6⟩ (fun hHeld => ?_)); clear hK K; (refine nP (some 16) (h := ?_)); (refine pure_ (i := 5) (N := some 17) (v := ?_) (a' := ?_) (cn 6 6) rfl rfl (by kernel_rfl) (fun _ _ _ h => h) (Or.inl ⟨by rfl, ?_⟩) ?_ ?_); rotate_left; (· intro w'; go_simp; with_reducible rfl); rotate_left; (· (simp only [Act.put, aS1, aS2, aS3, i64_w, i32_w]); rfl); (refine done_ (by kernel_rfl) ?_); (try go_wp2); go_roundg k1
        case measure => have := HK1.out; omega
        case rel => exact ⟨(wrap64 (x7_1 + 1)), (by first | rfl | (simp; done) | (simp [*]; done)), H', ⟨by have := HK1.out; omega⟩, ⟨eI HB⟩⟩
       ·replace c8 := Bool.eq_false_iff.mpr c8
        subst c8; (rw [if_neg (show ¬ (false = true) by decide)] at H); (obtain rfl := Option.some.inj H); (have p101 : 0 ≤ (x7_1 : Int) := odt); (have q101 : x7_1 < (l0.length : Int) := odt); (obtain ⟨ad101, A101_4, c101_4, e101, hx101_0, hx101_1, hx101_2, hx101_3, hx101_4, hx101_5, hx101_6, hl101_4, hi101_4⟩ := at_T69 HR0.out x7_1 p101 q101); (cases e101); (replace hx101_0 := hcI HB hx101_0); (replace hx101_1 := hcI HB hx101_1); (replace hx101_2 := hcI HB hx101_2); (replace hx101_3 := hcI HB hx101_3); (replace hx101_4 := hcI HB hx101_4); (replace hx101_5 := hcI HB hx101_5); (replace hx101_6 := hcI HB hx101_6); (have HR101_4 := Aside0.mk hi101_4); (have HC101_4 := Aside0.mk hl101_4); clear hi101_4 hl101_4; (replace p101 := eq_true p101); (replace q101 := eq_true q101); (try go_wp2_with (first | ((with_reducible refine gate_dst (N := 4) rfl ?_); refine box_event ?hg (N := 4) ?hd (cs := #[.string (⟨#[]⟩ : ByteArray), .int .i64 0, .int .i64 0, .int .i64 0, .slice none 0 0, .bool false, .string (⟨#[]⟩ : ByteArray)]) (t := 69) ?hr ?_; (case hd => rfl); (case hg => rfl); (case hr => first | (go_simp; done) | (go_simp; rfl)); intro gb102 hg w15 hbox hb; have hB_ := zI hb HB; have n0_ := Aside0.mk (below_step hB_ hb); have n1_ := Aside0.mk (hbox); have n2_ := Aside0.mk (bx0 hg hB_); have n3_ := n2_; clear HB; have HB := n0_; have BK102 := n1_; have GW102 := n2_; have GE102 := n3_; clear n0_ n1_ n2_ n3_ hB_ hb hbox hg; have hcz16_0 := cz BK102.out 0; have hcz16_1 := cz BK102.out 1; have hcz16_2 := cz BK102.out 2; have hcz16_3 := cz BK102.out 3; have hcz16_4 := cz BK102.out 4; have hcz16_5 := cz BK102.out 5; have hcz16_6 := cz BK102.out 6; have hfz16_0 := blk_frozen BK102.out 0; have hfz16_1 := blk_frozen BK102.out 1; have hfz16_2 := blk_frozen BK102.out 2; have hfz16_3 := blk_frozen BK102.out 3; have hfz16_4 := blk_frozen BK102.out 4; have hfz16_5 := blk_frozen BK102.out 5; have hfz16_6 := blk_frozen BK102.out 6))); (have n0_ : Aside0 ((((((((w15.setCell ⟨gb102, 0, none⟩ (.string ((rd_T69 l0 x7_1).f0))).setCell ⟨gb102, 1, none⟩ (.int .i64 ((rd_T69 l0 x7_1).f1))).setCell ⟨gb102, 2, none⟩ (.int .i64 ((rd_T69 l0 x7_1).f2))).setCell ⟨gb102, 3, none⟩ (.int .i64 ((rd_T69 l0 x7_1).f3))).setCell ⟨gb102, 4, none⟩ (.slice A101_4 ((rd_T69 l0 x7_1).f4).length c101_4)).setCell ⟨gb102, 5, none⟩ (.bool ((rd_T69 l0 x7_1).f5))).setCell ⟨gb102, 6, none⟩ (.string ((rd_T69 l0 x7_1).f6))).heap[gb102]? = some (.cells #[.string ((rd_T69 l0 x7_1).f0), .int .i64 ((rd_T69 l0 x7_1).f1), .int .i64 ((rd_T69 l0 x7_1).f2), .int .i64 ((rd_T69 l0 x7_1).f3), .slice A101_4 ((rd_T69 l0 x7_1).f4).length c101_4, .bool ((rd_T69 l0 x7_1).f5), .string ((rd_T69 l0 x7_1).f6)] 69 (0, 0))) := ⟨by (with_reducible repeat (first | refine kN ?_ _ | refine kD ?_ | refine kA ?_ _)); refine blk_put (cs := #[.string ((rd_T69 l0 x7_1).f0), .int .i64 ((rd_T69 l0 x7_1).f1), .int .i64 ((rd_T69 l0 x7_1).f2), .int .i64 ((rd_T69 l0 x7_1).f3), .slice A101_4 ((rd_T69 l0 x7_1).f4).length c101_4, .bool ((rd_T69 l0 x7_1).f5), .string (⟨#[]⟩ : ByteArray)]) ?_ 6 _ rfl; (with_reducible repeat (first | refine kN ?_ _ | refine kD ?_ | refine kA ?_ _)); refine blk_put (cs := #[.string ((rd_T69 l0 x7_1).f0), .int .i64 ((rd_T69 l0 x7_1).f1), .int .i64 ((rd_T69 l0 x7_1).f2), .int .i64 ((rd_T69 l0 x7_1).f3), .slice A101_4 ((rd_T69 l0 x7_1).f4).length c101_4, .bool false, .string (⟨#[]⟩ : ByteArray)]) ?_ 5 _ rfl; (with_reducible repeat (first | refine kN ?_ _ | refine kD ?_ | refine kA ?_ _)); refine blk_put (cs := #[.string ((rd_T69 l0 x7_1).f0), .int .i64 ((rd_T69 l0 x7_1).f1), .int .i64 ((rd_T69 l0 x7_1).f2), .int .i64 ((rd_T69 l0 x7_1).f3), .slice none 0 0, .bool false, .string (⟨#[]⟩ : ByteArray)]) ?_ 4 _ rfl; (with_reducible repeat (first | refine kN ?_ _ | refine kD ?_ | refine kA ?_ _)); refine blk_put (cs := #[.string ((rd_T69 l0 x7_1).f0), .int .i64 ((rd_T69 l0 x7_1).f1), .int .i64 ((rd_T69 l0 x7_1).f2), .int .i64 0, .slice none 0 0, .bool false, .string (⟨#[]⟩ : ByteArray)]) ?_ 3 _ rfl; (with_reducible repeat (first | refine kN ?_ _ | refine kD ?_ | refine kA ?_ _)); refine blk_put (cs := #[.string ((rd_T69 l0 x7_1).f0), .int .i64 ((rd_T69 l0 x7_1).f1), .int .i64 0, .int .i64 0, .slice none 0 0, .bool false, .string (⟨#[]⟩ : ByteArray)]) ?_ 2 _ rfl; (with_reducible repeat (first | refine kN ?_ _ | refine kD ?_ | refine kA ?_ _)); refine blk_put (cs := #[.string ((rd_T69 l0 x7_1).f0), .int .i64 0, .int .i64 0, .int .i64 0, .slice none 0 0, .bool false, .string (⟨#[]⟩ : ByteArray)]) ?_ 1 _ rfl; (with_reducible repeat (first | refine kN ?_ _ | refine kD ?_ | refine kA ?_ _)); refine blk_put (cs := #[.string (⟨#[]⟩ : ByteArray), .int .i64 0, .int .i64 0, .int .i64 0, .slice none 0 0, .bool false, .string (⟨#[]⟩ : ByteArray)]) ?_ 0 _ rfl; (with_reducible repeat (first | refine kN ?_ _ | refine kD ?_ | refine kA ?_ _)); exact BK102.out⟩)
        (have n1_ : Aside0 (Below w.heap.size w (((((((w15.setCell ⟨gb102, 0, none⟩ (.string ((rd_T69 l0 x7_1).f0))).setCell ⟨gb102, 1, none⟩ (.int .i64 ((rd_T69 l0 x7_1).f1))).setCell ⟨gb102, 2, none⟩ (.int .i64 ((rd_T69 l0 x7_1).f2))).setCell ⟨gb102, 3, none⟩ (.int .i64 ((rd_T69 l0 x7_1).f3))).setCell ⟨gb102, 4, none⟩ (.slice A101_4 ((rd_T69 l0 x7_1).f4).length c101_4)).setCell ⟨gb102, 5, none⟩ (.bool ((rd_T69 l0 x7_1).f5))).setCell ⟨gb102, 6, none⟩ (.string ((rd_T69 l0 x7_1).f6)))) := ⟨by repeat (first | (with_reducible first | exact HB.out | apply bA | apply bN | apply bD | refine below_set ?_ GE102.out) | exact HB.out)⟩); ((try clear BK102)); ((try clear HB)); (generalize (((((((w15.setCell ⟨gb102, 0, none⟩ (.string ((rd_T69 l0 x7_1).f0))).setCell ⟨gb102, 1, none⟩ (.int .i64 ((rd_T69 l0 x7_1).f1))).setCell ⟨gb102, 2, none⟩ (.int .i64 ((rd_T69 l0 x7_1).f2))).setCell ⟨gb102, 3, none⟩ (.int .i64 ((rd_T69 l0 x7_1).f3))).setCell ⟨gb102, 4, none⟩ (.slice A101_4 ((rd_T69 l0 x7_1).f4).length c101_4)).setCell ⟨gb102, 5, none⟩ (.bool ((rd_T69 l0 x7_1).f5))).setCell ⟨gb102, 6, none⟩ (.string ((rd_T69 l0 x7_1).f6))) = w17 at n0_ n1_ ⊢); (have BK102 := n0_); (have HB := n1_); clear n0_ n1_; (have n0_ := Aside0.mk (blk_drew BK102.out)); (have n1_ := Aside0.mk (below_drew1 HB.out)); clear BK102 HB; (have BK102 := n0_); (have HB := n1_); clear n0_ n1_; (have q19 : (x7_1 : Int) ≤ ((l0.length : Int) : Int) := odt); (obtain ⟨i019, hi019, _, hsz19, _⟩ := info_parts info69); (have hroom19 : l0.length ≤ c0 := HC0.out); (have hC19 : Kd.C k69 _ (some ad101) l0.length l0 := HR0.out); (have hcut19 := cut_to (P := Tryd.prog) 26 69 .i64 Tryd.underlying26 hi019 (some ad101) l0.length c0 x7_1 odt q19 hroom19); (have hr19 := Kd.C_take (m := (x7_1 : Int).toNat) hC19 (by omega)); (have hy19 : y103.length = (x7_1 : Int).toNat := (by rw [Ny103.out, List.length_take]; omega)); (rw [← Ny103.out] at hr19); (rw [← hy19] at hcut19); (have HR106 := Aside0.mk hr19); (have HC106 := Aside0.mk (show y103.length ≤ c0 from by omega)); clear hr19 hC19 hroom19 hi019 hsz19; (have KY19 := Aside0.mk hy19); clear hy19; (replace q19 := eq_true q19); (refine start_ (n := 6) (S := fun w' => w'.cell? ⟨gb102, 0, none⟩ = some (.string ((rd_T69 l0 x7_1).f0)) ∧ w'.cell? ⟨gb102, 1, none⟩ = some (.int .i64 ((rd_T69 l0 x7_1).f1)) ∧ w'.cell? ⟨gb102, 2, none⟩ = some (.int .i64 ((rd_T69 l0 x7_1).f2)) ∧ w'.cell? ⟨gb102, 3, none⟩ = some (.int .i64 ((rd_T69 l0 x7_1).f3)) ∧ w'.cell? ⟨gb102, 4, none⟩ = some (.slice A101_4 ((rd_T69 l0 x7_1).f4).length c101_4) ∧ w'.cell? ⟨gb102, 5, none⟩ = some (.bool ((rd_T69 l0 x7_1).f5)) ∧ w'.cell? ⟨gb102, 6, none⟩ = some (.string ((rd_T69 l0 x7_1).f6))) (ds := []) (cn 6 0) (by kernel_rfl) rfl (by kernel_rfl) ⟨cz BK102.out 0, cz BK102.out 1, cz BK102.out 2, cz BK102.out 3, cz BK102.out 4, cz BK102.out 5, cz BK102.out 6⟩ (fun hHeld => ?_)); (generalize w17.drew = w18 at BK102 HB HR106 hHeld ⊢); (refine pure_ (i := 0) (N := some 12) (v := ?_) (a' := ?_) (cn 6 1) rfl rfl (by kernel_rfl) (fun _ _ _ h => h) (Or.inl ⟨by rfl, ?_⟩) ?_ ?_); rotate_left; (· intro w'; go_simp; with_reducible rfl); rotate_left; (· (simp only [Act.put, aS1, aS2, aS3, i64_w, i32_w]); rfl); (refine pure_ (i := 1) (N := some 13) (v := ?_) (a' := ?_) (cn 6 2) rfl rfl (by kernel_rfl) (fun _ _ _ h => h) (Or.inl ⟨by rfl, ?_⟩) ?_ ?_); rotate_left; (· intro w'; go_simp; with_reducible rfl); rotate_left; (· (simp only [Act.put, aS1, aS2, aS3, i64_w, i32_w]); rfl); (refine pure_ (i := 2) (N := some 14) (v := ?_) (a' := ?_) (cn 6 3) rfl rfl (by kernel_rfl) (fun _ _ _ h => h) (Or.inl ⟨by rfl, ?_⟩) ?_ ?_); rotate_left; (· intro w'; go_simp; with_reducible rfl); rotate_left; (· (simp only [Act.put, aS1, aS2, aS3, i64_w, i32_w]); rfl); (refine take_ (i := 3) (N := some 15) (v := ?_) (a' := ?_) (cn 6 4) rfl rfl (by kernel_rfl) (fun _ _ _ h => h) (Or.inl ⟨by rfl, ?_⟩) hHeld ?_ ?_); rotate_left; (· (rintro w' ⟨s0, s1, s2, s3, s4, s5, s6⟩); go_simp; with_reducible rfl); rotate_left; (· (simp only [Act.put, aS1, aS2, aS3, i64_w, i32_w]); rfl); (refine one_ (i := 4) (N := some 16) (cn 6 5) rfl rfl (by kernel_rfl) (by decide) (fun K hK => ?_)); (refine gG Tryd.func74 #[.slice (some ad101) y103.length c0, .agg #[.string ((rd_T69 l0 x7_1).f0), .int .i64 ((rd_T69 l0 x7_1).f1), .int .i64 ((rd_T69 l0 x7_1).f2), .int .i64 ((rd_T69 l0 x7_1).f3), .slice A101_4 ((rd_T69 l0 x7_1).f4).length c101_4, .bool ((rd_T69 l0 x7_1).f5), .string ((rd_T69 l0 x7_1).f6)]] ?_); (with_reducible refine (impl_isField.calls k1 _ _ y103 ((rd_T69 l0 x7_1).f0) ((rd_T69 l0 x7_1).f1) ((rd_T69 l0 x7_1).f2) ((rd_T69 l0 x7_1).f3) _ _ ((rd_T69 l0 x7_1).f4) ((rd_T69 l0 x7_1).f5) ((rd_T69 l0 x7_1).f6) false _ ?side1 ?side2 ?side3 ?side4 A7.out).mono ?_); ((case side1 => exact Kd.C_below HR106.out (eI HB))); ((case side2 => exact HC106.out)); ((case side3 => exact Kd.C_below HR101_4.out (eI HB))); ((case side4 => exact HC101_4.out)); (rintro e w20 ⟨rfl, hb⟩); (refine ⟨_, rfl, ?_⟩)
        (have n0_ := Aside0.mk (kbI hb BK102)); (have n1_ := Aside0.mk (sI hb HB)); clear BK102 HB; (have BK102 := n0_); (have HB := n1_); clear n0_ n1_; ((try clear hb)); ((try clear hb2)); ((try clear hk)); ((try clear hi)); (refine hK.out _ _ ⟨cz BK102.out 0, cz BK102.out 1, cz BK102.out 2, cz BK102.out 3, cz BK102.out 4, cz BK102.out 5, cz BK102.out 6⟩ (fun hHeld => ?_)); clear hK K; (refine nP (some 16) (h := ?_)); (refine pure_ (i := 5) (N := some 17) (v := ?_) (a' := ?_) (cn 6 6) rfl rfl (by kernel_rfl) (fun _ _ _ h => h) (Or.inl ⟨by rfl, ?_⟩) ?_ ?_); rotate_left; (· intro w'; go_simp; with_reducible rfl); rotate_left; (· (simp only [Act.put, aS1, aS2, aS3, i64_w, i32_w]); rfl); (refine done_ (by kernel_rfl) ?_); (try go_wp2); go_ret; (exact ⟨rfl, eI HB⟩)
      ·rw [if_neg c6] at H
       exact absurd H (by simp)
     ·rw [if_neg c4] at H
      exact absurd H (by simp)
    ·rw [if_neg c3] at H
     exact absurd H (by simp)
   ·rw [if_neg c2] at H
    (have c2b0 := decide_eq_false c2); clear c2; (obtain rfl := Option.some.inj H); (go_wp2); go_ret; (exact ⟨rfl, eI HB⟩)
/-! ### impl_isText: function 69 -/
def impl_isText.l0 : Nat → ByteArray → Int → Int → Option (Bool)
 | 0, _, _, _ => none
 | k + 1, x0, x5, x6 => if x6 < x5 then (if 0 ≤ x6 then (if x6 < (x0.size : Int) then (if (bt x0 x6) < 32 then (some false) else (if (bt x0 x6) > 126 then (some false) else (impl_isText.l0 k x0 x5 (wrap64 (x6 + 1))))) else (none)) else (none)) else (some (decide ((x0.size : Int) ≤ 40)))
def impl_isText.f (k : Nat) (a0 : ByteArray) : Option (Bool) := impl_isText.l0 k a0 (a0.size : Int) 0
set_option maxHeartbeats 8000000 in
set_option maxRecDepth 100000 in
theorem impl_isText.calls (k : Nat) (a0 : ByteArray) (r : Bool) (w : World) (h : impl_isText.f k a0 = some r) :
  Calls Tryd.prog 69 #[.string a0] w fun e w' => e = .returned (.bool r) ∧ Drawn0 w w' := by
 (unfold impl_isText.f at h); (have H := h); clear h; (have H' := Aside0.mk H); clear H; (go_enter Tryd.func69, Tryd.ntmps69); (go_wp2); (go_loopg [6] k (fun kq v6 w' => ∃ (x6_1 : Int), v6 = .int .i64 x6_1 ∧ Aside0 (impl_isText.l0 kq a0 (a0.size : Int) x6_1 = some r) ∧ Aside0 (kq ≤ k) ∧ Drawn0 w w'))
 case atStart => exact ⟨(0), (by first | rfl | (simp; done) | (simp [*]; done)), H', ⟨Nat.le_refl _⟩, by repeat (first | exact Drawn0.refl _ | apply Drawn0.step)⟩
 case round =>
  (clear H'); (obtain ⟨x6_1, rfl, HA, HK1, ⟨m1, rfl⟩⟩ := hrel)
  cases gk with
  | zero => exact absurd HA.out (by simp [impl_isText.l0])
  | succ k1 =>
   (have H := HA.out); clear HA; (simp only [impl_isText.l0] at H); (by_cases c2 : x6_1 < (a0.size : Int))
   ·rw [if_pos c2] at H
    (have c2b0 := decide_eq_true c2); clear c2; (by_cases c3 : 0 ≤ x6_1)
    ·rw [if_pos c3] at H
     (have c3b0 := decide_eq_true c3); clear c3; (by_cases c4 : x6_1 < (a0.size : Int))
     ·rw [if_pos c4] at H
      (have c4b0 := decide_eq_true c4); clear c4; (by_cases c6 : (bt a0 x6_1) < 32); (· (rw [if_pos c6] at H); (have c6b0 := decide_eq_true c6); clear c6; (obtain rfl := Option.some.inj H); (have p5 : 0 ≤ (x6_1 : Int) := odt); (have q5 : x6_1 < (a0.size : Int) := odt); (have hx5 := bt_at a0 x6_1); (replace p5 := eq_true p5); (replace q5 := eq_true q5); (go_wp2); go_ret; (exact ⟨by first | rfl | (simp; done) | (simp [*]; done), by repeat (first | exact Drawn0.refl _ | apply Drawn0.step)⟩))
      ·rw [if_neg c6] at H
       (have c6b0 := decide_eq_false c6); clear c6; (by_cases c8 : (bt a0 x6_1) > 126)
       ·rw [if_pos c8] at H
        (have c8b0 : decide (126 < (bt a0 x6_1)) = true := decide_eq_true c8); clear c8; (obtain rfl := Option.some.inj H); (have p5 : 0 ≤ (x6_1 : Int) := odt); (have q5 : x6_1 < (a0.size : Int) := odt); (have hx5 := bt_at a0 x6_1); (replace p5 := eq_true p5); (replace q5 := eq_true q5); (have p7 : 0 ≤ (x6_1 : Int) := odt); (have q7 : x6_1 < (a0.size : Int) := odt); (have hx7 := bt_at a0 x6_1); (replace p7 := eq_true p7); (replace q7 := eq_true q7); (go_wp2); go_ret; (exact ⟨by first | rfl | (simp; done) | (simp [*]; done), by repeat (first | exact Drawn0.refl _ | apply Drawn0.step)⟩)
       ·rw [if_neg c8] at H
        (have c8b0 : decide (126 < (bt a0 x6_1)) = false := decide_eq_false c8); clear c8; (have H' := Aside0.mk H); clear H; (have p5 : 0 ≤ (x6_1 : Int) := odt); (have q5 : x6_1 < (a0.size : Int) := odt); (have hx5 := bt_at a0 x6_1); (replace p5 := eq_true p5); (replace q5 := eq_true q5); (have p7 : 0 ≤ (x6_1 : Int) := odt); (have q7 : x6_1 < (a0.size : Int) := odt); (have hx7 := bt_at a0 x6_1); (replace p7 := eq_true p7); (replace q7 := eq_true q7); (go_wp2); go_roundg k1
        case measure => have := HK1.out; omega
        case rel => exact ⟨(wrap64 (x6_1 + 1)), (by first | rfl | (simp; done) | (simp [*]; done)), H', ⟨by have := HK1.out; omega⟩, by repeat (first | exact Drawn0.refl _ | apply Drawn0.step)⟩
     ·rw [if_neg c4] at H
      exact absurd H (by simp)
    ·rw [if_neg c3] at H
     exact absurd H (by simp)
   ·rw [if_neg c2] at H
    (have c2b0 := decide_eq_false c2); clear c2; (obtain rfl := Option.some.inj H); (go_wp2); go_ret; (exact ⟨by first | rfl | (simp; done) | (simp [*]; done), by repeat (first | exact Drawn0.refl _ | apply Drawn0.step)⟩)
/-! ### impl_IsValidAnswers: function 34 -/
def impl_IsValidAnswers.l0 : Nat → List (S69) → Int → List (S58) → Int → Int → Option (Bool)
 | 0, _, _, _, _, _ => none
 | k + 1, x0, x5, x9, x10, x11 => if x11 < x10 then (if 0 ≤ x11 then (if x11 < (x9.length : Int) then ((impl_fieldOf.f x0 ((rd_T58 x9 x11).f0)).bind fun t104 => (if t104 ≤ x5 then (some false) else ((impl_isText.f k ((rd_T58 x9 x11).f1)).bind fun t105 => (if t105 = true then (impl_IsValidAnswers.l0 k x0 t104 x9 x10 (wrap64 (x11 + 1))) else (some false))))) else (none)) else (none)) else ((impl_IsValidForm.f k x0).bind fun t101 => (some t101))
def impl_IsValidAnswers.f (k : Nat) (l0 : List (S69)) (l1 : List (S58)) : Option (Bool) := impl_IsValidAnswers.l0 k l0 (-1) l1 (l1.length : Int) 0
set_option maxHeartbeats 8000000 in
set_option maxRecDepth 100000 in
theorem impl_IsValidAnswers.calls (k : Nat) (A0 : Option Addr) (c0 : Nat) (l0 : List (S69)) (A1 : Option Addr) (c1 : Nat) (l1 : List (S58)) (r : Bool) (w : World) (hr0 : Kd.C k69 w A0 l0.length l0) (hc0 : l0.length ≤ c0) (hr1 : Kd.C k58 w A1 l1.length l1) (hc1 : l1.length ≤ c1) (h : impl_IsValidAnswers.f k l0 l1 = some r) :
  Calls Tryd.prog 34 #[.slice A0 l0.length c0, .slice A1 l1.length c1] w fun e w' => e = .returned (.bool r) ∧ Below w.heap.size w w' := by
 (have hu58 := Tryd.underlying58); (have HR0 := Aside0.mk hr0); (have HC0 := Aside0.mk hc0); clear hr0 hc0; (have HR1 := Aside0.mk hr1); (have HC1 := Aside0.mk hc1); clear hr1 hc1; (have HB := Aside0.mk (Below.refl w.heap.size w)); (unfold impl_IsValidAnswers.f at h); (have H := h); clear h; (have H' := Aside0.mk H); clear H; (go_enter Tryd.func34, Tryd.ntmps34); (go_wp2); (go_loopg [5, 11] k (fun kq v5 v11 w' => ∃ (x5_1 : Int) (x11_1 : Int), v5 = .int .i64 x5_1 ∧ v11 = .int .i64 x11_1 ∧ Aside0 (impl_IsValidAnswers.l0 kq l0 x5_1 l1 (l1.length : Int) x11_1 = some r) ∧ Aside0 (kq ≤ k) ∧ Aside0 (Below w.heap.size w w')))
 case atStart => exact ⟨((-1)), (0), (by first | rfl | (simp; done) | (simp [*]; done)), (by first | rfl | (simp; done) | (simp [*]; done)), H', ⟨Nat.le_refl _⟩, ⟨eI HB⟩⟩
 case round =>
  (clear H'); (try clear c1); (try clear p2); (obtain ⟨x5_1, x11_1, rfl, rfl, HA, HK1, HB⟩ := hrel)
  cases gk with
  | zero => exact absurd HA.out (by simp [impl_IsValidAnswers.l0])
  | succ k1 =>
   (have H := HA.out); clear HA; (simp only [impl_IsValidAnswers.l0] at H); (by_cases c3 : x11_1 < (l1.length : Int))
   ·rw [if_pos c3] at H
    (have c3b0 := decide_eq_true c3); clear c3; (by_cases c4 : 0 ≤ x11_1)
    ·rw [if_pos c4] at H
     (have c4b0 := decide_eq_true c4); clear c4; (by_cases c5 : x11_1 < (l1.length : Int))
     ·rw [if_pos c5] at H
      (have c5b0 := decide_eq_true c5); clear c5; (replace H := obS H); (obtain ⟨t104, A6, H⟩ := H); (by_cases c7 : t104 ≤ x5_1)
      ·rw [if_pos c7] at H
       (have c7b0 := decide_eq_true c7); clear c7; (obtain rfl := Option.some.inj H); (have p102 : 0 ≤ (x11_1 : Int) := of_decide_eq_true (by first | (with_reducible assumption) | assumption)); (have q102 : x11_1 < (l1.length : Int) := of_decide_eq_true (by first | (with_reducible assumption) | assumption)); (obtain ⟨ad102, e102, hx102_0, hx102_1⟩ := at_T58 HR1.out x11_1 p102 q102); (cases e102); (replace hx102_0 := (HB.out.cell (bltc w _ hx102_0)).trans hx102_0); (replace hx102_1 := (HB.out.cell (bltc w _ hx102_1)).trans hx102_1); (replace p102 := eq_true p102); (replace q102 := eq_true q102); (go_wp2_with (first | ((with_reducible refine gate_dst (N := 7) rfl ?_); refine box_event ?hg (N := 7) ?hd (cs := #[.string (⟨#[]⟩ : ByteArray), .string (⟨#[]⟩ : ByteArray)]) (t := 58) ?hr ?_; (case hd => rfl); (case hg => rfl); (case hr => first | (go_simp; done) | (go_simp; rfl)); intro gb103 hg w8 hbox hb; have hB_ := bz (by repeat (first | (with_reducible first | exact HB.out | apply bA | apply bN | apply bD) | exact HB.out)) hb; have n0_ := Aside0.mk (below_step hB_ hb); have n1_ := Aside0.mk (hbox); have n2_ := Aside0.mk ((by rw [hg]; exact (below_size hB_) : w.heap.size ≤ gb103)); have n3_ := n2_; clear HB; have HB := n0_; have BK103 := n1_; have GW103 := n2_; have GE103 := n3_; clear n0_ n1_ n2_ n3_ hB_ hb hbox hg; have hcz9_0 := cz BK103.out 0; have hcz9_1 := cz BK103.out 1; have hfz9_0 := blk_frozen BK103.out 0; have hfz9_1 := blk_frozen BK103.out 1) | ((with_reducible refine gate_callee (f := 68) rfl ?_); refine gL (some 18) Tryd.func68 #[.slice A0 l0.length c0, .string ((rd_T58 l1 x11_1).f0)] ?_; (with_reducible refine (impl_fieldOf.calls _ _ l0 ((rd_T58 l1 x11_1).f0) t104 _ ?side1 ?side2 A6.out).mono ?_); (case side1 => exact Kd.C_below HR0.out (by repeat (first | (with_reducible first | exact HB.out | apply bA | apply bN | apply bD | refine below_set ?_ GE103.out) | exact HB.out))); (case side2 => exact HC0.out); rintro e w10 ⟨rfl, hb⟩; refine ⟨_, rfl, ?_⟩; have n0_ := Aside0.mk (blk_below (g := gb103) (o := .cells #[.string ((rd_T58 l1 x11_1).f0), .string ((rd_T58 l1 x11_1).f1)] 58 (0, 0)) (by (with_reducible repeat (first | refine kN ?_ _ | refine kD ?_ | refine kA ?_ _)); refine blk_put (cs := #[.string ((rd_T58 l1 x11_1).f0), .string (⟨#[]⟩ : ByteArray)]) ?_ 1 _ rfl; (with_reducible repeat (first | refine kN ?_ _ | refine kD ?_ | refine kA ?_ _)); refine blk_put (cs := #[.string (⟨#[]⟩ : ByteArray), .string (⟨#[]⟩ : ByteArray)]) ?_ 0 _ rfl; (with_reducible repeat (first | refine kN ?_ _ | refine kD ?_ | refine kA ?_ _)); exact BK103.out) hb); have n1_ := Aside0.mk (below_step (by repeat (first | (with_reducible first | exact HB.out | apply bA | apply bN | apply bD | refine below_set ?_ GE103.out) | exact HB.out)) hb); clear BK103 HB; have BK103 := n0_; have HB := n1_; clear n0_ n1_; (try clear hb); (try clear hb2); (try clear hk); (try clear hi)))); go_ret; (exact ⟨by first | rfl | (simp [errW_none, errW_some] <;> rfl) | (simp [*, errW_none, errW_some] <;> rfl), by repeat (first | (with_reducible first | exact HB.out | apply bA | apply bN | apply bD | refine below_set ?_ GE103.out) | exact HB.out)⟩)
      ·rw [if_neg c7] at H
       (have c7b0 := decide_eq_false c7); clear c7; (replace H := obS H); (obtain ⟨t105, A11, H⟩ := H); (by_cases c12 : t105 = true)
       ·subst c12
        (rw [if_pos rfl] at H); (have H' := Aside0.mk H); clear H; (have p102 : 0 ≤ (x11_1 : Int) := of_decide_eq_true (by first | (with_reducible assumption) | assumption)); (have q102 : x11_1 < (l1.length : Int) := of_decide_eq_true (by first | (with_reducible assumption) | assumption)); (obtain ⟨ad102, e102, hx102_0, hx102_1⟩ := at_T58 HR1.out x11_1 p102 q102); (cases e102); (replace hx102_0 := (HB.out.cell (bltc w _ hx102_0)).trans hx102_0); (replace hx102_1 := (HB.out.cell (bltc w _ hx102_1)).trans hx102_1); (replace p102 := eq_true p102); (replace q102 := eq_true q102); (go_wp2_with (first | ((with_reducible refine gate_dst (N := 7) rfl ?_); refine box_event ?hg (N := 7) ?hd (cs := #[.string (⟨#[]⟩ : ByteArray), .string (⟨#[]⟩ : ByteArray)]) (t := 58) ?hr ?_; (case hd => rfl); (case hg => rfl); (case hr => first | (go_simp; done) | (go_simp; rfl)); intro gb103 hg w13 hbox hb; have hB_ := bz (by repeat (first | (with_reducible first | exact HB.out | apply bA | apply bN | apply bD) | exact HB.out)) hb; have n0_ := Aside0.mk (below_step hB_ hb); have n1_ := Aside0.mk (hbox); have n2_ := Aside0.mk ((by rw [hg]; exact (below_size hB_) : w.heap.size ≤ gb103)); have n3_ := n2_; clear HB; have HB := n0_; have BK103 := n1_; have GW103 := n2_; have GE103 := n3_; clear n0_ n1_ n2_ n3_ hB_ hb hbox hg; have hcz14_0 := cz BK103.out 0; have hcz14_1 := cz BK103.out 1; have hfz14_0 := blk_frozen BK103.out 0; have hfz14_1 := blk_frozen BK103.out 1) | ((with_reducible refine gate_callee (f := 68) rfl ?_); refine gL (some 18) Tryd.func68 #[.slice A0 l0.length c0, .string ((rd_T58 l1 x11_1).f0)] ?_; (with_reducible refine (impl_fieldOf.calls _ _ l0 ((rd_T58 l1 x11_1).f0) t104 _ ?side1 ?side2 A6.out).mono ?_); (case side1 => exact Kd.C_below HR0.out (by repeat (first | (with_reducible first | exact HB.out | apply bA | apply bN | apply bD | refine below_set ?_ GE103.out) | exact HB.out))); (case side2 => exact HC0.out); rintro e w15 ⟨rfl, hb⟩; refine ⟨_, rfl, ?_⟩; have n0_ := Aside0.mk (blk_below (g := gb103) (o := .cells #[.string ((rd_T58 l1 x11_1).f0), .string ((rd_T58 l1 x11_1).f1)] 58 (0, 0)) (by (with_reducible repeat (first | refine kN ?_ _ | refine kD ?_ | refine kA ?_ _)); refine blk_put (cs := #[.string ((rd_T58 l1 x11_1).f0), .string (⟨#[]⟩ : ByteArray)]) ?_ 1 _ rfl; (with_reducible repeat (first | refine kN ?_ _ | refine kD ?_ | refine kA ?_ _)); refine blk_put (cs := #[.string (⟨#[]⟩ : ByteArray), .string (⟨#[]⟩ : ByteArray)]) ?_ 0 _ rfl; (with_reducible repeat (first | refine kN ?_ _ | refine kD ?_ | refine kA ?_ _)); exact BK103.out) hb); have n1_ := Aside0.mk (below_step (by repeat (first | (with_reducible first | exact HB.out | apply bA | apply bN | apply bD | refine below_set ?_ GE103.out) | exact HB.out)) hb); clear BK103 HB; have BK103 := n0_; have HB := n1_; clear n0_ n1_; (try clear hb); (try clear hb2); (try clear hk); (try clear hi); have hcz16_0 := cz BK103.out 0; have hcz16_1 := cz BK103.out 1; have hfz16_0 := blk_frozen BK103.out 0; have hfz16_1 := blk_frozen BK103.out 1) | (go_at_call 69; (with_reducible refine (impl_isText.calls k1 ((rd_T58 l1 x11_1).f1) true _ A11.out).mono ?_); rintro e w' ⟨rfl, ⟨nd, rfl⟩⟩))); go_roundg k1
        case measure => have := HK1.out; omega
        case rel => exact ⟨(t104), (wrap64 (x11_1 + 1)), (by first | rfl | (simp; done) | (simp [*]; done)), (by first | rfl | (simp; done) | (simp [*]; done)), H', ⟨by have := HK1.out; omega⟩, ⟨eI HB⟩⟩
       ·replace c12 := Bool.eq_false_iff.mpr c12
        subst c12; (rw [if_neg (show ¬ (false = true) by decide)] at H); (obtain rfl := Option.some.inj H); (have p102 : 0 ≤ (x11_1 : Int) := of_decide_eq_true (by first | (with_reducible assumption) | assumption)); (have q102 : x11_1 < (l1.length : Int) := of_decide_eq_true (by first | (with_reducible assumption) | assumption)); (obtain ⟨ad102, e102, hx102_0, hx102_1⟩ := at_T58 HR1.out x11_1 p102 q102); (cases e102); (replace hx102_0 := (HB.out.cell (bltc w _ hx102_0)).trans hx102_0); (replace hx102_1 := (HB.out.cell (bltc w _ hx102_1)).trans hx102_1); (replace p102 := eq_true p102); (replace q102 := eq_true q102); (go_wp2_with (first | ((with_reducible refine gate_dst (N := 7) rfl ?_); refine box_event ?hg (N := 7) ?hd (cs := #[.string (⟨#[]⟩ : ByteArray), .string (⟨#[]⟩ : ByteArray)]) (t := 58) ?hr ?_; (case hd => rfl); (case hg => rfl); (case hr => first | (go_simp; done) | (go_simp; rfl)); intro gb103 hg w17 hbox hb; have hB_ := bz (by repeat (first | (with_reducible first | exact HB.out | apply bA | apply bN | apply bD) | exact HB.out)) hb; have n0_ := Aside0.mk (below_step hB_ hb); have n1_ := Aside0.mk (hbox); have n2_ := Aside0.mk ((by rw [hg]; exact (below_size hB_) : w.heap.size ≤ gb103)); have n3_ := n2_; clear HB; have HB := n0_; have BK103 := n1_; have GW103 := n2_; have GE103 := n3_; clear n0_ n1_ n2_ n3_ hB_ hb hbox hg; have hcz18_0 := cz BK103.out 0; have hcz18_1 := cz BK103.out 1; have hfz18_0 := blk_frozen BK103.out 0; have hfz18_1 := blk_frozen BK103.out 1) | ((with_reducible refine gate_callee (f := 68) rfl ?_); refine gL (some 18) Tryd.func68 #[.slice A0 l0.length c0, .string ((rd_T58 l1 x11_1).f0)] ?_; (with_reducible refine (impl_fieldOf.calls _ _ l0 ((rd_T58 l1 x11_1).f0) t104 _ ?side1 ?side2 A6.out).mono ?_); (case side1 => exact Kd.C_below HR0.out (by repeat (first | (with_reducible first | exact HB.out | apply bA | apply bN | apply bD | refine below_set ?_ GE103.out) | exact HB.out))); (case side2 => exact HC0.out); rintro e w19 ⟨rfl, hb⟩; refine ⟨_, rfl, ?_⟩; have n0_ := Aside0.mk (blk_below (g := gb103) (o := .cells #[.string ((rd_T58 l1 x11_1).f0), .string ((rd_T58 l1 x11_1).f1)] 58 (0, 0)) (by (with_reducible repeat (first | refine kN ?_ _ | refine kD ?_ | refine kA ?_ _)); refine blk_put (cs := #[.string ((rd_T58 l1 x11_1).f0), .string (⟨#[]⟩ : ByteArray)]) ?_ 1 _ rfl; (with_reducible repeat (first | refine kN ?_ _ | refine kD ?_ | refine kA ?_ _)); refine blk_put (cs := #[.string (⟨#[]⟩ : ByteArray), .string (⟨#[]⟩ : ByteArray)]) ?_ 0 _ rfl; (with_reducible repeat (first | refine kN ?_ _ | refine kD ?_ | refine kA ?_ _)); exact BK103.out) hb); have n1_ := Aside0.mk (below_step (by repeat (first | (with_reducible first | exact HB.out | apply bA | apply bN | apply bD | refine below_set ?_ GE103.out) | exact HB.out)) hb); clear BK103 HB; have BK103 := n0_; have HB := n1_; clear n0_ n1_; (try clear hb); (try clear hb2); (try clear hk); (try clear hi); have hcz20_0 := cz BK103.out 0; have hcz20_1 := cz BK103.out 1; have hfz20_0 := blk_frozen BK103.out 0; have hfz20_1 := blk_frozen BK103.out 1) | (go_at_call 69; (with_reducible refine (impl_isText.calls k1 ((rd_T58 l1 x11_1).f1) false _ A11.out).mono ?_); rintro e w' ⟨rfl, ⟨nd, rfl⟩⟩))); go_ret; (exact ⟨by first | rfl | (simp [errW_none, errW_some] <;> rfl) | (simp [*, errW_none, errW_some] <;> rfl), by repeat (first | (with_reducible first | exact HB.out | apply bA | apply bN | apply bD | refine below_set ?_ GE103.out) | exact HB.out)⟩)
     ·rw [if_neg c5] at H
      exact absurd H (by simp)
    ·rw [if_neg c4] at H
     exact absurd H (by simp)
   ·rw [if_neg c3] at H
    (have c3b0 := decide_eq_false c3); clear c3; (replace H := obS H); (obtain ⟨t101, A21, H⟩ := H); (obtain rfl := Option.some.inj H); (go_wp2_with (first | ((with_reducible refine gate_callee (f := 37) rfl ?_); refine gL (some 31) Tryd.func37 #[.slice A0 l0.length c0] ?_; (with_reducible refine (impl_IsValidForm.calls k1 _ _ l0 t101 _ ?side1 ?side2 A21.out).mono ?_); (case side1 => exact Kd.C_below HR0.out (eI HB)); (case side2 => exact HC0.out); rintro e w22 ⟨rfl, hb⟩; refine ⟨_, rfl, ?_⟩; have n0_ := Aside0.mk (sI hb HB); clear HB; have HB := n0_; clear n0_; (try clear hb); (try clear hb2); (try clear hk); (try clear hi)))); go_ret; (exact ⟨rfl, eI HB⟩)

end Go.Proofs.YtdogpphfofimeaaDoor.X
set_option linter.unusedVariables false
namespace Go.Proofs.YtdogpphfofimeaaDoor.X
open Go.RowKit Go.Proofs.YtdogpphfofimeaaDoorW.PrintWords Go.Proofs.YtdogpphfofimeaaDoorW.PrintLast Go.Proofs.YtdogpphfofimeaaDoorW.PrintMore Go.Proofs.YtdogpphfofimeaaDoor.E
set_option maxHeartbeats 1000000 in
set_option maxRecDepth 100000 in
theorem idxFunc97 (A_ : Option Addr) (c_ : Nat) (l0 : List (S58)) (g : Nat) (lb : Array Value) (p : S58 → Bool) (w : World)
    (hr0 : Kd.C k58 w A_ l0.length l0) (eg : ∀ args w, (callFunc g args).run Tryd.prog w = .ok (.enter g args) w)
    (hp : ∀ (W : World) (x : S58), x ∈ l0 → Below w.heap.size w W → Calls Tryd.prog g (#[.agg #[.string x.f0, .string x.f1]] ++ lb) W fun e w' => e = .returned (.bool (p x)) ∧ Below W.heap.size W w') :
    Calls Tryd.prog 97 #[.slice A_ l0.length c_, .func (.func g) #[] lb] w fun e w' => e = .returned (.int .i64 (idxG p 0 l0)) ∧ Below w.heap.size w w' := by
  have hu58 := Tryd.underlying58
  have HL := Aside0.mk hr0.2.1
  have HR0 := Aside0.mk hr0
  have HP := Aside0.mk hp
  clear hr0 hp
  go_enter Tryd.func97, Tryd.ntmps97
  go_wp2
  go_loopg [5, 8] l0.length (fun gg _ s8 wr => ∃ x8 : Int, s8 = .int .i64 x8 ∧ Aside0 (0 ≤ x8) ∧ Aside0 (x8 ≤ (l0.length : Int)) ∧ Aside0 ((l0.length : Int) - x8 ≤ (gg : Int)) ∧ Aside0 (Below w.heap.size w wr) ∧ Aside0 (∀ (m : Nat) y, (m : Int) < x8 → l0[m]? = some y → p y = false))
  case atStart => exact ⟨0, rfl, ⟨by omega⟩, ⟨by omega⟩, ⟨by omega⟩, ⟨Below.refl _ _⟩, ⟨fun m y hm => by omega⟩⟩
  case round =>
    obtain ⟨x8, rfl, H0, H1, HG, HB, HN⟩ := hrel
    by_cases c : x8 < (l0.length : Int)
    · have p1 := H0.out
      have q1 := c
      have cb : decide (x8 < (l0.length : Int)) = true := decide_eq_true c
      obtain ⟨ad, e, hx0, hx1⟩ := at_T58 (Kd.C_below HR0.out HB.out) x8 p1 q1
      cases e
      replace p1 := eq_true p1
      replace q1 := eq_true q1
      have hel : l0[x8.toNat]? = some (rd_T58 l0 x8) := by
        have := H0.out
        unfold rd_T58
        rw [List.getD_eq_getElem?_getD, List.getElem?_eq_getElem (show x8.toNat < l0.length by omega), Option.getD_some]
      have hcall := HP.out wr (rd_T58 l0 x8) (List.mem_of_getElem? hel) HB.out
      have HE := Aside0.mk hel
      clear hel
      have hwr : wrap64 (x8 + 1) = x8 + 1 := wrap_id (by have := H0.out; omega) (by have := HL.out; omega)
      cases hq : p (rd_T58 l0 x8) with
      | true =>
        rw [hq] at hcall
        have HQ := Aside0.mk hq
        clear hq
        go_wp2_with (go_at_fn g; refine hcall.mono ?_; rintro e w' ⟨rfl, hb⟩)
        go_ret
        refine ⟨?_, ?_⟩
        · rw [idxG_here HE.out HQ.out (fun m y hm => HN.out m y (by have := H0.out; omega))]
          have := H0.out
          rw [Int.toNat_of_nonneg (by omega)]
          rfl
        · exact below_step HB.out hb
      | false =>
        rw [hq] at hcall
        have HQ := Aside0.mk hq
        clear hq
        go_wp2_with (go_at_fn g; refine hcall.mono ?_; rintro e w' ⟨rfl, hb⟩)
        go_roundg (l0.length - (x8.toNat + 1))
        case measure => have := HG.out; have := H0.out; omega
        case rel =>
          refine ⟨x8 + 1, by simp [*], ⟨by have := H0.out; omega⟩, ⟨by omega⟩, ⟨by have := H0.out; omega⟩, ⟨below_step HB.out hb⟩, ⟨fun m y hm hy => ?_⟩⟩
          by_cases e : (m : Int) = x8
          · have : x8.toNat = m := by omega
            rw [← this, HE.out] at hy
            cases hy
            exact HQ.out
          · exact HN.out m y (by omega) hy
    · have cb : decide (x8 < (l0.length : Int)) = false := decide_eq_false c
      have e : x8 = (l0.length : Int) := by have := H1.out; omega
      have HE := Aside0.mk e
      clear e
      go_wp2
      go_ret
      refine ⟨?_, HB.out⟩
      rw [idxG_none (fun m y hm => HN.out m y (by rw [HE.out]; omega))]
      rfl
end Go.Proofs.YtdogpphfofimeaaDoor.X
namespace Go.Proofs.YtdogpphfofimeaaDoor.X
open Go.RowKit Go.Proofs.YtdogpphfofimeaaDoorW.PrintWords Go.Proofs.YtdogpphfofimeaaDoorW.PrintLast Go.Proofs.YtdogpphfofimeaaDoorW.PrintMore Go.Proofs.YtdogpphfofimeaaDoor.E
attribute [local go_sem] max2_int min2_int max_two min_two max_three min_three max_four min_four   -- for this text's walks alone
set_option linter.unusedVariables false
set_option linter.unusedSimpArgs false
attribute [-simp] ByteArray.size_append ByteArray.size_extract
attribute [-go_sem] ByteArray.size_append'

/-! ### impl_answerOf: function 70 -/
/-- The literal of answerOf: is it the answer to this field? -/
theorem answerOf1 (x : S58) (a : ByteArray) (B : Nat) (w : World) (hc : w.cell? ⟨B, 0, none⟩ = some (.string a)) :
  Calls Tryd.prog 100 #[.agg #[.string x.f0, .string x.f1], .pointer (some ⟨B, 0, none⟩)] w fun e w' => e = .returned (.bool (x.f0.toList == a.toList)) ∧ Below w.heap.size w w' := by
 (have hu59 := Tryd.underlying58); (have hc' : ∀ o : Obj, (w.alloc o).cell? ⟨B, 0, none⟩ = some (.string a) := fun o => ((((Below.refl _ _).alloc (Nat.le_refl _) o).cell (p := ⟨B, 0, none⟩) (bltc w _ hc))).trans hc); (go_enter Tryd.func100, Tryd.ntmps100); (go_wp2); go_ret; (exact ⟨rfl, (Below.refl _ _).alloc (Nat.le_refl _) _⟩)
def impl_answerOf.f (l0 : List S58) (a1 : ByteArray) : Option (ByteArray × Bool) := match l0.find? (fun x => x.f0.toList == a1.toList) with
 | some x => some (x.f1, true)
 | none => some (⟨#[]⟩, false)
set_option maxHeartbeats 400000 in
set_option maxRecDepth 100000 in
theorem impl_answerOf.calls (A0 : Option Addr) (c0 : Nat) (l0 : List (S58)) (a1 : ByteArray) (r1 : ByteArray) (r2 : Bool) (w : World) (hr0 : Kd.C k58 w A0 l0.length l0) (hc0 : l0.length ≤ c0) (h : impl_answerOf.f l0 a1 = some (r1, r2)) :
  Calls Tryd.prog 70 #[.slice A0 l0.length c0, .string a1] w fun e w' => e = .returned (.tuple #[.string r1, .bool r2]) ∧ Below w.heap.size w w' := by
 have C := fun (W : World) (hb : Below w.heap.size w W) (hlt : w.heap.size < W.heap.size) (hcell : W.cell? ⟨w.heap.size, 0, none⟩ = some (.string a1)) =>
  idxFunc97 A0 c0 l0 100 #[.pointer (some ⟨w.heap.size, 0, none⟩)] (fun x : S58 => x.f0.toList == a1.toList) W (Kd.C_below hr0 hb) (enters_of Tryd.func100 (by kernel_rfl) rfl) (fun W' x _ hb' => answerOf1 x a1 w.heap.size W' ((hb'.cell (p := ⟨w.heap.size, 0, none⟩) hlt).trans hcell))
 (have HR0 := Aside0.mk hr0); (have HL := Aside0.mk hr0.2.1); clear hr0; (rcases idxG_spec (fun x : S58 => x.f0.toList == a1.toList) l0 0 with ⟨h1, h2⟩ | ⟨j, x, h1, h2, h3, h4, h5, h6⟩); (· (have hf : l0.find? (fun x => x.f0.toList == a1.toList) = none := List.find?_eq_none.2 (fun x hx => by rw [h2 x hx]; simp)); (unfold impl_answerOf.f at h); (rw [hf] at h); (simp only [Option.some.injEq, Prod.mk.injEq] at h); (obtain ⟨rfl, rfl⟩ := h); (rw [h1] at C); (have CC := Aside0.mk C); clear C hf h1 h2; (go_enter Tryd.func70, Tryd.ntmps70); (go_wp2_with (go_at_call 97; refine (CC.out _ ?s1 ?s2 ?s3).mono ?_; (case s1 => exact (Below.refl _ _).alloc (Nat.le_refl _) _); (case s2 => simp); (case s3 => simp); rintro e w' ⟨rfl, hb⟩)); (go_ret2); (exact ⟨rfl, below_step ((Below.refl _ _).alloc (Nat.le_refl _) _) hb⟩))
 ·unfold impl_answerOf.f at h
  (rw [h5] at h); (simp only [Option.some.injEq, Prod.mk.injEq] at h); (obtain ⟨rfl, rfl⟩ := h); (rw [h2, Nat.zero_add] at C); (have p1 : 0 ≤ (j : Int) := by omega); (have q1 : (j : Int) < (l0.length : Int) := by omega)
  have hel : rd_T58 l0 (j : Int) = x := by
   (unfold rd_T58); (rw [Int.toNat_natCast, List.getD_eq_getElem?_getD, h3, Option.getD_some])
  (obtain ⟨ad, e, hx0, hx1⟩ := at_T58 HR0.out (j : Int) p1 q1); (rw [hel] at hx0 hx1); (rw [Int.toNat_natCast] at hx0 hx1); (cases e); (have K0 := Aside0.mk hx0); (have K1 := Aside0.mk hx1); (have cb : decide ((j : Int) < 0) = false := decide_eq_false (by omega)); (have hjl : j < l0.length := h1); clear hx0 hx1 hel h2 h3 h4 h5 h6 h1; (have CC := Aside0.mk C); clear C; (go_enter Tryd.func70, Tryd.ntmps70); (go_wp2_with (go_at_call 97; refine (CC.out _ ?s1 ?s2 ?s3).mono ?_; (case s1 => exact (Below.refl _ _).alloc (Nat.le_refl _) _); (case s2 => simp); (case s3 => simp); rintro e w' ⟨rfl, hb⟩; have HB := Aside0.mk (below_step ((Below.refl _ _).alloc (Nat.le_refl _) _) hb); clear hb; have g1 := (HB.out.cell (bltc w _ K1.out)).trans K1.out)); (go_ret2); (exact ⟨rfl, HB.out⟩)

end Go.Proofs.YtdogpphfofimeaaDoor.X
namespace Go.Proofs.YtdogpphfofimeaaDoor.X
open Go.RowKit Go.Proofs.YtdogpphfofimeaaDoorW.PrintWords Go.Proofs.YtdogpphfofimeaaDoorW.PrintLast Go.Proofs.YtdogpphfofimeaaDoorW.PrintMore
attribute [local go_sem] max2_int min2_int max_two min_two max_three min_three max_four min_four   -- for this text's walks alone
set_option linter.unusedVariables false
set_option linter.unusedSimpArgs false
attribute [-simp] ByteArray.size_append ByteArray.size_extract
attribute [-go_sem] ByteArray.size_append'

/-! ### impl_visible: function 64 -/
def impl_visible.l0 : Nat → List (S69) → List (S58) → List Bool → List (S69) → Int → Int → Option (List Bool)
 | 0, _, _, _, _, _, _ => none
 | k + 1, x0, x1, x5, x13, x14, x15 => if x15 < x14 then (if 0 ≤ x15 then (if x15 < (x13.length : Int) then (if ((rd_T69 x13 x15).f6).toList = ([] : List UInt8) then (if x15 < (x5.length : Int) then (impl_visible.l0 k x0 x1 (x5.set (x15 : Int).toNat true) x13 x14 (wrap64 (x15 + 1))) else (none)) else ((impl_answerOf.f x1 ((rd_T69 x13 x15).f6)).bind fun bt107 => ((impl_fieldOf.f x0 ((rd_T69 x13 x15).f6)).bind fun t109 => (if 0 ≤ t109 then (if t109 < (x5.length : Int) then (if rdOf false x5 t109 = true then (if x15 < (x5.length : Int) then (impl_visible.l0 k x0 x1 (x5.set (x15 : Int).toNat (bt107.1.toList == ([121, 101, 115] : List UInt8))) x13 x14 (wrap64 (x15 + 1))) else (none)) else (if x15 < (x5.length : Int) then (impl_visible.l0 k x0 x1 (x5.set (x15 : Int).toNat false) x13 x14 (wrap64 (x15 + 1))) else (none))) else (none)) else (none))))) else (none)) else (none)) else (some x5)
def impl_visible.f (k : Nat) (l0 : List (S69)) (l1 : List (S58)) : Option (List Bool) := if 0 ≤ (l0.length : Int) then (if ((l0.length : Int) : Int).toNat ≤ 281474976710656 then (impl_visible.l0 k l0 l1 (List.replicate ((l0.length : Int) : Int).toNat false) l0 (l0.length : Int) 0) else (none)) else (none)
set_option maxHeartbeats 8000000 in
set_option maxRecDepth 100000 in
theorem impl_visible.calls (k : Nat) (A0 : Option Addr) (c0 : Nat) (l0 : List (S69)) (A1 : Option Addr) (c1 : Nat) (l1 : List (S58)) (r : List Bool) (w : World) (hr0 : Kd.C k69 w A0 l0.length l0) (hc0 : l0.length ≤ c0) (hr1 : Kd.C k58 w A1 l1.length l1) (hc1 : l1.length ≤ c1) (h : impl_visible.f k l0 l1 = some r) :
  Calls Tryd.prog 64 #[.slice A0 l0.length c0, .slice A1 l1.length c1] w fun e w' => ∃ v0_ : Value, e = .returned (v0_) ∧ Kd.R Kd.bool 4 w' w.heap.size (fun _ => True) v0_ r ∧ Below w.heap.size w w' := by
 (have hu69 := Tryd.underlying69); (have HR0 := Aside0.mk hr0); (have HC0 := Aside0.mk hc0); clear hr0 hc0; (have HR1 := Aside0.mk hr1); (have HC1 := Aside0.mk hc1); clear hr1 hc1; (have HB := Aside0.mk (Below.refl w.heap.size w)); (unfold impl_visible.f at h); (have H := h); clear h; (by_cases c3 : 0 ≤ (l0.length : Int))
 ·rw [if_pos c3] at H
  (have c3b0 := eq_true c3); (have c3b1 := decide_eq_true c3); clear c3; (by_cases c4 : ((l0.length : Int) : Int).toNat ≤ 281474976710656)
  ·rw [if_pos c4] at H
   (have c4b0 := eq_true c4); (have c4b1 := decide_eq_true c4); clear c4; (obtain ⟨y101, hy101⟩ : ∃ y_ : List Bool, y_ = (List.replicate ((l0.length : Int) : Int).toNat false) := ⟨_, rfl⟩); (replace H : (impl_visible.l0 k l0 l1 y101 l0 (l0.length : Int) 0) = some r := by first | (rw [hy101]; with_reducible exact H) | (have H2_ := (Option.bind_some _ _).symm.trans H; rw [hy101]; with_reducible exact H2_) | (have H2_ := (Option.bind_some _ _).symm.trans H; with_reducible exact H2_) | with_reducible exact H | (rw [hy101]; exact H) | exact H); (have Ny101 := Aside0.mk hy101); clear hy101; (have H' := Aside0.mk H); clear H; (go_enter Tryd.func64, Tryd.ntmps64); (go_wp2_with (first | ((with_reducible refine gate_dst (N := 12) rfl ?_); refine Kd.R_make Kd.bool _ 4 rfl (N := 12) rfl 90 _ _ rfl (l0.length : Int) rfl rfl Tryd.underlying90 (.bool false) 1 info4 rfl (by decide) (by omega) false (ok := fun _ => True) (okp := fun _ => True) rfl (fun _ hk => hk) trivial odt (Nat.le_trans (Nat.mul_le_mul_right _ (odt : (l0.length : Int).toNat ≤ 281474976710656)) (by omega)) (Below.refl _ _) (Nat.le_refl _) ?_; intro v102 w5 ho6 hb hg_ hnew_; clear hg_ hnew_; (first | rw [← Ny101.out] at ho6 | (simp only [Int.reduceToNat] at ho6; rw [← Ny101.out] at ho6)); have hB_ := zI hb HB; have n0_ := Aside0.mk (Kd.R_lower ho6 (below_size hB_)); have n1_ := Aside0.mk (below_step hB_ hb); clear HB; have HO103 := n0_; have HB := n1_; clear n0_ n1_ hB_ hb ho6))); (go_loopg [15] k (fun kq v15 w' => ∃ (x5_1 : List Bool) (x15_1 : Int), v15 = .int .i64 x15_1 ∧ Aside0 (impl_visible.l0 kq l0 l1 x5_1 l0 (l0.length : Int) x15_1 = some r) ∧ Aside0 (kq ≤ k) ∧ Aside0 (Kd.R Kd.bool 4 w' w.heap.size (fun _ => True) v102 x5_1) ∧ Aside0 (Below w.heap.size w w')))
   case atStart => exact ⟨(y101), (0), (by first | rfl | (simp; done) | (simp [*]; done)), H', ⟨Nat.le_refl _⟩, ⟨rI HO103⟩, ⟨eI HB⟩⟩
   case round =>
    (clear H'); (try clear c1); (try clear p2); (try clear c3); (try clear c3b0); (try clear c3b1); (try clear c4); (try clear c4b0); (try clear c4b1); (try clear c6); (obtain ⟨x5_1, x15_1, rfl, HA, HK1, HO_5, HB⟩ := hrel)
    cases gk with
    | zero => exact absurd HA.out (by simp [impl_visible.l0])
    | succ k1 =>
     (have H := HA.out); clear HA; (simp only [impl_visible.l0] at H); (by_cases c7 : x15_1 < (l0.length : Int))
     ·rw [if_pos c7] at H
      (have c7b0 := decide_eq_true c7); clear c7; (by_cases c8 : 0 ≤ x15_1)
      ·rw [if_pos c8] at H
       (have c8b0 := decide_eq_true c8); clear c8; (by_cases c9 : x15_1 < (l0.length : Int))
       ·rw [if_pos c9] at H
        (have c9b0 := decide_eq_true c9); clear c9; (by_cases c10 : ((rd_T69 l0 x15_1).f6).toList = ([] : List UInt8))
        ·rw [if_pos c10] at H
         (have c10b0 : ((rd_T69 l0 x15_1).f6).toList.isEmpty = true := List.isEmpty_iff.mpr c10); (have c10b1 : (!((rd_T69 l0 x15_1).f6).toList.isEmpty) = false := by rw [List.isEmpty_iff.mpr c10]; rfl); (have c10b2 : (((rd_T69 l0 x15_1).f6).toList == ([] : List UInt8)) = true := beq_iff_eq.mpr c10); (have c10b3 : (((rd_T69 l0 x15_1).f6).toList != ([] : List UInt8)) = false := bne_eq_false_iff_eq.mpr c10); clear c10; (by_cases c11 : x15_1 < (x5_1.length : Int))
         ·rw [if_pos c11] at H
          (have c11b0 := decide_eq_true c11); clear c11; (obtain ⟨y106, hy106⟩ : ∃ y_ : List Bool, y_ = (x5_1.set (x15_1 : Int).toNat true) := ⟨_, rfl⟩); (replace H : (impl_visible.l0 k1 l0 l1 y106 l0 (l0.length : Int) (wrap64 (x15_1 + 1))) = some r := by first | (rw [hy106]; with_reducible exact H) | (have H2_ := (Option.bind_some _ _).symm.trans H; rw [hy106]; with_reducible exact H2_) | (have H2_ := (Option.bind_some _ _).symm.trans H; with_reducible exact H2_) | with_reducible exact H | (rw [hy106]; exact H) | exact H); (have Ny106 := Aside0.mk hy106); clear hy106; (have H' := Aside0.mk H); clear H; (have p104 : 0 ≤ (x15_1 : Int) := of_decide_eq_true (by first | (with_reducible assumption) | assumption)); (have q104 : x15_1 < (l0.length : Int) := of_decide_eq_true (by first | (with_reducible assumption) | assumption)); (obtain ⟨ad104, A104_4, c104_4, e104, hx104_0, hx104_1, hx104_2, hx104_3, hx104_4, hx104_5, hx104_6, hl104_4, hi104_4⟩ := at_T69 HR0.out x15_1 p104 q104); (cases e104); (replace hx104_0 := (HB.out.cell (bltc w _ hx104_0)).trans hx104_0); (replace hx104_1 := (HB.out.cell (bltc w _ hx104_1)).trans hx104_1); (replace hx104_2 := (HB.out.cell (bltc w _ hx104_2)).trans hx104_2); (replace hx104_3 := (HB.out.cell (bltc w _ hx104_3)).trans hx104_3); (replace hx104_4 := (HB.out.cell (bltc w _ hx104_4)).trans hx104_4); (replace hx104_5 := (HB.out.cell (bltc w _ hx104_5)).trans hx104_5); (replace hx104_6 := (HB.out.cell (bltc w _ hx104_6)).trans hx104_6); (have HR104_4 := Aside0.mk hi104_4); (have HC104_4 := Aside0.mk hl104_4); clear hi104_4 hl104_4; (replace p104 := eq_true p104); (replace q104 := eq_true q104)
          go_wp2_with (first | ((with_reducible refine gate_dst (N := 7) rfl ?_); refine box_event ?hg (N := 7) ?hd (cs := #[.string (⟨#[]⟩ : ByteArray), .int .i64 0, .int .i64 0, .int .i64 0, .slice none 0 0, .bool false, .string (⟨#[]⟩ : ByteArray)]) (t := 69) ?hr ?_; (case hd => rfl); (case hg => rfl); (case hr => first | (go_simp; done) | (go_simp; rfl)); intro gb105 hg w13 hbox hb; have n0_ := Aside0.mk (Kd.R_below (rI HO_5) hb); have hB_ := bz (by repeat (first | (with_reducible first | exact HB.out | apply bA | apply bN | apply bD) | exact HB.out)) hb; have n1_ := Aside0.mk (below_step hB_ hb); have n2_ := Aside0.mk (hbox); have n3_ := Aside0.mk ((by rw [hg]; exact (below_size hB_) : w.heap.size ≤ gb105)); have n4_ := n3_; clear HO_5 HB; have HO_5 := n0_; have HB := n1_; have BK105 := n2_; have GW105 := n3_; have GE105 := n4_; clear n0_ n1_ n2_ n3_ n4_ hB_ hb hbox hg; have hcz14_0 := cz BK105.out 0; have hcz14_1 := cz BK105.out 1; have hcz14_2 := cz BK105.out 2; have hcz14_3 := cz BK105.out 3; have hcz14_4 := cz BK105.out 4; have hcz14_5 := cz BK105.out 5; have hcz14_6 := cz BK105.out 6; have hfz14_0 := blk_frozen BK105.out 0; have hfz14_1 := blk_frozen BK105.out 1; have hfz14_2 := blk_frozen BK105.out 2; have hfz14_3 := blk_frozen BK105.out 3; have hfz14_4 := blk_frozen BK105.out 4; have hfz14_5 := blk_frozen BK105.out 5; have hfz14_6 := blk_frozen BK105.out 6) | ((with_reducible refine gate_store (t := 69) (p := 7) rfl ?_); refine store_event (t := 69) (p := 7) (v := ?vo_w15) (w1 := (((((((w13.setCell ⟨gb105, 0, none⟩ (.string ((rd_T69 l0 x15_1).f0))).setCell ⟨gb105, 1, none⟩ (.int .i64 ((rd_T69 l0 x15_1).f1))).setCell ⟨gb105, 2, none⟩ (.int .i64 ((rd_T69 l0 x15_1).f2))).setCell ⟨gb105, 3, none⟩ (.int .i64 ((rd_T69 l0 x15_1).f3))).setCell ⟨gb105, 4, none⟩ (.slice A104_4 ((rd_T69 l0 x15_1).f4).length c104_4)).setCell ⟨gb105, 5, none⟩ (.bool ((rd_T69 l0 x15_1).f5))).setCell ⟨gb105, 6, none⟩ (.string ((rd_T69 l0 x15_1).f6)))) ?hg ?ho ?hn ?hr ?_; (case ho => rfl); (case hg => rfl); (case hn => rfl); (case hr => first | (go_simp; done) | (go_simp; rfl)); intro w15 hw; have n0_ : Aside0 (Kd.R Kd.bool 4 w15 w.heap.size (fun _ => True) v102 x5_1) := ⟨(by rw [hw]; exact (by (with_reducible repeat (first | apply rA | apply rN | apply rD)); exact Kd.R_mono (Kd.R_far (p := ⟨gb105, 6, none⟩) (Kd.R_far (p := ⟨gb105, 5, none⟩) (Kd.R_far (p := ⟨gb105, 4, none⟩) (Kd.R_far (p := ⟨gb105, 3, none⟩) (Kd.R_far (p := ⟨gb105, 2, none⟩) (Kd.R_far (p := ⟨gb105, 1, none⟩) (Kd.R_far (p := ⟨gb105, 0, none⟩) (Kd.R_types HO_5.out BK105.out (by decide)) (fun _ hk => hk.2) (.string ((rd_T69 l0 x15_1).f0))) (fun _ hk => hk.2) (.int .i64 ((rd_T69 l0 x15_1).f1))) (fun _ hk => hk.2) (.int .i64 ((rd_T69 l0 x15_1).f2))) (fun _ hk => hk.2) (.int .i64 ((rd_T69 l0 x15_1).f3))) (fun _ hk => hk.2) (.slice A104_4 ((rd_T69 l0 x15_1).f4).length c104_4)) (fun _ hk => hk.2) (.bool ((rd_T69 l0 x15_1).f5))) (fun _ hk => hk.2) (.string ((rd_T69 l0 x15_1).f6))) (fun _ hk => trivial)))⟩; have n1_ : Aside0 (w15.heap[gb105]? = some (.cells #[.string ((rd_T69 l0 x15_1).f0), .int .i64 ((rd_T69 l0 x15_1).f1), .int .i64 ((rd_T69 l0 x15_1).f2), .int .i64 ((rd_T69 l0 x15_1).f3), .slice A104_4 ((rd_T69 l0 x15_1).f4).length c104_4, .bool ((rd_T69 l0 x15_1).f5), .string ((rd_T69 l0 x15_1).f6)] 69 (0, 0))) := ⟨(by rw [hw]; exact (by (with_reducible repeat (first | refine kN ?_ _ | refine kD ?_ | refine kA ?_ _)); refine blk_put (cs := #[.string ((rd_T69 l0 x15_1).f0), .int .i64 ((rd_T69 l0 x15_1).f1), .int .i64 ((rd_T69 l0 x15_1).f2), .int .i64 ((rd_T69 l0 x15_1).f3), .slice A104_4 ((rd_T69 l0 x15_1).f4).length c104_4, .bool ((rd_T69 l0 x15_1).f5), .string (⟨#[]⟩ : ByteArray)]) ?_ 6 _ rfl; (with_reducible repeat (first | refine kN ?_ _ | refine kD ?_ | refine kA ?_ _)); refine blk_put (cs := #[.string ((rd_T69 l0 x15_1).f0), .int .i64 ((rd_T69 l0 x15_1).f1), .int .i64 ((rd_T69 l0 x15_1).f2), .int .i64 ((rd_T69 l0 x15_1).f3), .slice A104_4 ((rd_T69 l0 x15_1).f4).length c104_4, .bool false, .string (⟨#[]⟩ : ByteArray)]) ?_ 5 _ rfl; (with_reducible repeat (first | refine kN ?_ _ | refine kD ?_ | refine kA ?_ _)); refine blk_put (cs := #[.string ((rd_T69 l0 x15_1).f0), .int .i64 ((rd_T69 l0 x15_1).f1), .int .i64 ((rd_T69 l0 x15_1).f2), .int .i64 ((rd_T69 l0 x15_1).f3), .slice none 0 0, .bool false, .string (⟨#[]⟩ : ByteArray)]) ?_ 4 _ rfl; (with_reducible repeat (first | refine kN ?_ _ | refine kD ?_ | refine kA ?_ _)); refine blk_put (cs := #[.string ((rd_T69 l0 x15_1).f0), .int .i64 ((rd_T69 l0 x15_1).f1), .int .i64 ((rd_T69 l0 x15_1).f2), .int .i64 0, .slice none 0 0, .bool false, .string (⟨#[]⟩ : ByteArray)]) ?_ 3 _ rfl; (with_reducible repeat (first | refine kN ?_ _ | refine kD ?_ | refine kA ?_ _)); refine blk_put (cs := #[.string ((rd_T69 l0 x15_1).f0), .int .i64 ((rd_T69 l0 x15_1).f1), .int .i64 0, .int .i64 0, .slice none 0 0, .bool false, .string (⟨#[]⟩ : ByteArray)]) ?_ 2 _ rfl; (with_reducible repeat (first | refine kN ?_ _ | refine kD ?_ | refine kA ?_ _)); refine blk_put (cs := #[.string ((rd_T69 l0 x15_1).f0), .int .i64 0, .int .i64 0, .int .i64 0, .slice none 0 0, .bool false, .string (⟨#[]⟩ : ByteArray)]) ?_ 1 _ rfl; (with_reducible repeat (first | refine kN ?_ _ | refine kD ?_ | refine kA ?_ _)); refine blk_put (cs := #[.string (⟨#[]⟩ : ByteArray), .int .i64 0, .int .i64 0, .int .i64 0, .slice none 0 0, .bool false, .string (⟨#[]⟩ : ByteArray)]) ?_ 0 _ rfl; (with_reducible repeat (first | refine kN ?_ _ | refine kD ?_ | refine kA ?_ _)); exact BK105.out))⟩; have n2_ : Aside0 (Below w.heap.size w w15) := ⟨(by rw [hw]; exact (by repeat (first | (with_reducible first | exact HB.out | apply bA | apply bN | apply bD | refine below_set ?_ GE105.out) | exact HB.out)))⟩; clear hw HO_5 BK105 HB; have HO_5 := n0_; have BK105 := n1_; have HB := n2_; clear n0_ n1_ n2_; have hcz16_0 := cz BK105.out 0; have hcz16_1 := cz BK105.out 1; have hcz16_2 := cz BK105.out 2; have hcz16_3 := cz BK105.out 3; have hcz16_4 := cz BK105.out 4; have hcz16_5 := cz BK105.out 5; have hcz16_6 := cz BK105.out 6; have hfz16_0 := blk_frozen BK105.out 0; have hfz16_1 := blk_frozen BK105.out 1; have hfz16_2 := blk_frozen BK105.out 2; have hfz16_3 := blk_frozen BK105.out 3; have hfz16_4 := blk_frozen BK105.out 4; have hfz16_5 := blk_frozen BK105.out 5; have hfz16_6 := blk_frozen BK105.out 6; have p12 : 0 ≤ (x15_1 : Int) := of_decide_eq_true (by first | (with_reducible assumption) | assumption); have q12 : (x15_1 : Int) < ((x5_1.length : Int) : Int) := of_decide_eq_true (by first | (with_reducible assumption) | assumption); obtain ⟨go12, co12, eo12, gb12, gl12, cl12, HG12⟩ := Kd.R_form HO_5.out (by omega); (first | cases eo12 | (injection eo12 with ea_ en_ ec_; (first | subst ea_ | (injection ea_ with ea_; subst ea_)); subst ec_; clear en_)); have GB12 := Aside0.mk gb12; have GG12 := Aside0.mk HG12; clear gb12 gl12 HG12; obtain ⟨hx12_0, hf12_0⟩ := Kd.R_celln false HO_5.out (x15_1 : Int) p12 q12; replace p12 := eq_true p12; replace q12 := eq_true q12; obtain ⟨hy17_, hz17_⟩ := Kd.R_celln false HO_5.out (x15_1 : Int) (of_decide_eq_true (by first | (with_reducible assumption) | assumption)) (of_decide_eq_true (by first | (with_reducible assumption) | assumption)); have HP17 := Kd.R_putg HO_5.out (x15_1 : Int) true) | ((with_reducible refine gate_store (t := 4) (p := 25) rfl ?_); refine store_event (t := 4) (p := 25) (v := ?vo_w18) (w1 := (w15.setCell ⟨go12, (x15_1 : Int).toNat, none⟩ (.bool true))) ?hg ?ho ?hn ?hr ?_; (case ho => rfl); (case hg => rfl); (case hn => rfl); (case hr => first | (go_simp; done) | (go_simp; rfl)); intro w18 hw; have hg : w15.grownBy w18 (some go12) := (by rw [hw]; exact HP17.2); have hp_ : Kd.R Kd.bool 4 w18 w.heap.size (fun _ => True) (.slice (some ⟨go12, 0, none⟩) x5_1.length co12) y106 := (by rw [hw, Ny106.out]; exact HP17.1); clear HP17; have n0_ := Aside0.mk (hp_); have n1_ := Aside0.mk (blk_grown (kI BK105) hg (Kd.R_ne HO_5.out BK105.out (by decide))); have n2_ := Aside0.mk ((by rw [hw]; exact below_set (HB.out) GB12.out : Below w.heap.size w w18)); clear HO_5 BK105 HB; have HO_5 := n0_; have BK105 := n1_; have HB := n2_; clear n0_ n1_ n2_ hg hw hp_))
          go_roundg k1
          case measure => have := HK1.out; omega
          case rel => exact ⟨(y106), (wrap64 (x15_1 + 1)), (by first | rfl | (simp; done) | (simp [*]; done)), H', ⟨by have := HK1.out; omega⟩, ⟨by (with_reducible repeat (first | apply rA | apply rN | apply rD)); exact HO_5.out⟩, ⟨by repeat (first | (with_reducible first | exact HB.out | apply bA | apply bN | apply bD | refine below_set ?_ GE105.out) | exact HB.out)⟩⟩
         ·rw [if_neg c11] at H
          exact absurd H (by simp)
        ·rw [if_neg c10] at H
         (have c10b0 : ((rd_T69 l0 x15_1).f6).toList.isEmpty = false := by rw [Bool.eq_false_iff]; exact fun h_ => c10 (List.isEmpty_iff.mp h_)); (have c10b1 : (!((rd_T69 l0 x15_1).f6).toList.isEmpty) = true := by rw [show ((rd_T69 l0 x15_1).f6).toList.isEmpty = false from by rw [Bool.eq_false_iff]; exact fun h_ => c10 (List.isEmpty_iff.mp h_)]; rfl); (have c10b2 : (((rd_T69 l0 x15_1).f6).toList == ([] : List UInt8)) = false := beq_eq_false_iff_ne.mpr c10); (have c10b3 : (((rd_T69 l0 x15_1).f6).toList != ([] : List UInt8)) = true := bne_iff_ne.mpr c10); (replace H := obS H); (obtain ⟨⟨t107, t108⟩, A19, H⟩ := H); (replace H : ((impl_fieldOf.f l0 ((rd_T69 l0 x15_1).f6)).bind fun t109 => (if 0 ≤ t109 then (if t109 < (x5_1.length : Int) then (if rdOf false x5_1 t109 = true then (if x15_1 < (x5_1.length : Int) then (impl_visible.l0 k1 l0 l1 (x5_1.set (x15_1 : Int).toNat (t107.toList == ([121, 101, 115] : List UInt8))) l0 (l0.length : Int) (wrap64 (x15_1 + 1))) else (none)) else (if x15_1 < (x5_1.length : Int) then (impl_visible.l0 k1 l0 l1 (x5_1.set (x15_1 : Int).toNat false) l0 (l0.length : Int) (wrap64 (x15_1 + 1))) else (none))) else (none)) else (none))) = some r := H); (replace H := obS H); (obtain ⟨t109, A20, H⟩ := H); (by_cases c21 : 0 ≤ t109)
         ·rw [if_pos c21] at H
          (have c21b0 := decide_eq_true c21); clear c21; (by_cases c22 : t109 < (x5_1.length : Int))
          ·rw [if_pos c22] at H
           (have c22b0 := decide_eq_true c22); clear c22; (obtain ⟨bq23, hbq23⟩ : ∃ b_ : Bool, b_ = (rdOf false x5_1 t109) := ⟨_, rfl⟩); (replace H : (if bq23 = true then (if x15_1 < (x5_1.length : Int) then (impl_visible.l0 k1 l0 l1 (x5_1.set (x15_1 : Int).toNat (t107.toList == ([121, 101, 115] : List UInt8))) l0 (l0.length : Int) (wrap64 (x15_1 + 1))) else (none)) else (if x15_1 < (x5_1.length : Int) then (impl_visible.l0 k1 l0 l1 (x5_1.set (x15_1 : Int).toNat false) l0 (l0.length : Int) (wrap64 (x15_1 + 1))) else (none))) = some r := by rw [← hbq23] at H; exact H); (have Nbq23 := Aside0.mk hbq23); clear hbq23; (by_cases c24 : bq23 = true)
           ·subst c24
            (rw [if_pos rfl] at H); (by_cases c25 : x15_1 < (x5_1.length : Int))
            ·rw [if_pos c25] at H
             (have c25b0 := decide_eq_true c25); clear c25; (obtain ⟨y111, hy111⟩ : ∃ y_ : List Bool, y_ = (x5_1.set (x15_1 : Int).toNat (t107.toList == ([121, 101, 115] : List UInt8))) := ⟨_, rfl⟩); (replace H : (impl_visible.l0 k1 l0 l1 y111 l0 (l0.length : Int) (wrap64 (x15_1 + 1))) = some r := by first | (rw [hy111]; with_reducible exact H) | (have H2_ := (Option.bind_some _ _).symm.trans H; rw [hy111]; with_reducible exact H2_) | (have H2_ := (Option.bind_some _ _).symm.trans H; with_reducible exact H2_) | with_reducible exact H | (rw [hy111]; exact H) | exact H); (have Ny111 := Aside0.mk hy111); clear hy111; (have H' := Aside0.mk H); clear H; (have p104 : 0 ≤ (x15_1 : Int) := of_decide_eq_true (by first | (with_reducible assumption) | assumption)); (have q104 : x15_1 < (l0.length : Int) := of_decide_eq_true (by first | (with_reducible assumption) | assumption)); (obtain ⟨ad104, A104_4, c104_4, e104, hx104_0, hx104_1, hx104_2, hx104_3, hx104_4, hx104_5, hx104_6, hl104_4, hi104_4⟩ := at_T69 HR0.out x15_1 p104 q104); ((try rw [← Nbq23.out] at hx104_5)); (cases e104); (replace hx104_0 := (HB.out.cell (bltc w _ hx104_0)).trans hx104_0); (replace hx104_1 := (HB.out.cell (bltc w _ hx104_1)).trans hx104_1); (replace hx104_2 := (HB.out.cell (bltc w _ hx104_2)).trans hx104_2); (replace hx104_3 := (HB.out.cell (bltc w _ hx104_3)).trans hx104_3); (replace hx104_4 := (HB.out.cell (bltc w _ hx104_4)).trans hx104_4); (replace hx104_5 := (HB.out.cell (bltc w _ hx104_5)).trans hx104_5); (replace hx104_6 := (HB.out.cell (bltc w _ hx104_6)).trans hx104_6); (have HR104_4 := Aside0.mk hi104_4); (have HC104_4 := Aside0.mk hl104_4); clear hi104_4 hl104_4; (replace p104 := eq_true p104); (replace q104 := eq_true q104)
             go_wp2_with (first | ((with_reducible refine gate_dst (N := 7) rfl ?_); refine box_event ?hg (N := 7) ?hd (cs := #[.string (⟨#[]⟩ : ByteArray), .int .i64 0, .int .i64 0, .int .i64 0, .slice none 0 0, .bool false, .string (⟨#[]⟩ : ByteArray)]) (t := 69) ?hr ?_; (case hd => rfl); (case hg => rfl); (case hr => first | (go_simp; done) | (go_simp; rfl)); intro gb105 hg w27 hbox hb; have n0_ := Aside0.mk (Kd.R_below (by (with_reducible repeat (first | apply rA | apply rN | apply rD)); exact HO_5.out) hb); have hB_ := bz (by repeat (first | (with_reducible first | exact HB.out | apply bA | apply bN | apply bD) | exact HB.out)) hb; have n1_ := Aside0.mk (below_step hB_ hb); have n2_ := Aside0.mk (hbox); have n3_ := Aside0.mk ((by rw [hg]; exact (below_size hB_) : w.heap.size ≤ gb105)); have n4_ := n3_; clear HO_5 HB; have HO_5 := n0_; have HB := n1_; have BK105 := n2_; have GW105 := n3_; have GE105 := n4_; clear n0_ n1_ n2_ n3_ n4_ hB_ hb hbox hg; have hcz28_0 := cz BK105.out 0; have hcz28_1 := cz BK105.out 1; have hcz28_2 := cz BK105.out 2; have hcz28_3 := cz BK105.out 3; have hcz28_4 := cz BK105.out 4; have hcz28_5 := cz BK105.out 5; have hcz28_6 := cz BK105.out 6; have hfz28_0 := blk_frozen BK105.out 0; have hfz28_1 := blk_frozen BK105.out 1; have hfz28_2 := blk_frozen BK105.out 2; have hfz28_3 := blk_frozen BK105.out 3; have hfz28_4 := blk_frozen BK105.out 4; have hfz28_5 := blk_frozen BK105.out 5; have hfz28_6 := blk_frozen BK105.out 6) | ((with_reducible refine gate_callee (f := 70) rfl ?_); refine gL (some 30) Tryd.func70 #[.slice A1 l1.length c1, .string ((rd_T69 l0 x15_1).f6)] ?_; (with_reducible refine (impl_answerOf.calls _ _ l1 ((rd_T69 l0 x15_1).f6) t107 t108 _ ?side1 ?side2 A19.out).mono ?_); (case side1 => exact Kd.C_below HR1.out (by repeat (first | (with_reducible first | exact HB.out | apply bA | apply bN | apply bD | refine below_set ?_ GE105.out) | exact HB.out))); (case side2 => exact HC1.out); rintro e w29 ⟨rfl, hb⟩; refine ⟨_, rfl, ?_⟩; have n0_ := Aside0.mk (Kd.R_below (by (with_reducible repeat (first | apply rA | apply rN | apply rD)); exact (Kd.R_mono (Kd.R_far (p := ⟨gb105, 6, none⟩) (Kd.R_far (p := ⟨gb105, 5, none⟩) (Kd.R_far (p := ⟨gb105, 4, none⟩) (Kd.R_far (p := ⟨gb105, 3, none⟩) (Kd.R_far (p := ⟨gb105, 2, none⟩) (Kd.R_far (p := ⟨gb105, 1, none⟩) (Kd.R_far (p := ⟨gb105, 0, none⟩) (Kd.R_types HO_5.out BK105.out (by decide)) (fun _ hk => hk.2) (.string ((rd_T69 l0 x15_1).f0))) (fun _ hk => hk.2) (.int .i64 ((rd_T69 l0 x15_1).f1))) (fun _ hk => hk.2) (.int .i64 ((rd_T69 l0 x15_1).f2))) (fun _ hk => hk.2) (.int .i64 ((rd_T69 l0 x15_1).f3))) (fun _ hk => hk.2) (.slice A104_4 ((rd_T69 l0 x15_1).f4).length c104_4)) (fun _ hk => hk.2) (.bool ((rd_T69 l0 x15_1).f5))) (fun _ hk => hk.2) (.string ((rd_T69 l0 x15_1).f6))) (fun _ h_ => h_.1))) hb); have n1_ := Aside0.mk (blk_below (g := gb105) (o := .cells #[.string ((rd_T69 l0 x15_1).f0), .int .i64 ((rd_T69 l0 x15_1).f1), .int .i64 ((rd_T69 l0 x15_1).f2), .int .i64 ((rd_T69 l0 x15_1).f3), .slice A104_4 ((rd_T69 l0 x15_1).f4).length c104_4, .bool ((rd_T69 l0 x15_1).f5), .string ((rd_T69 l0 x15_1).f6)] 69 (0, 0)) (by (with_reducible repeat (first | refine kN ?_ _ | refine kD ?_ | refine kA ?_ _)); refine blk_put (cs := #[.string ((rd_T69 l0 x15_1).f0), .int .i64 ((rd_T69 l0 x15_1).f1), .int .i64 ((rd_T69 l0 x15_1).f2), .int .i64 ((rd_T69 l0 x15_1).f3), .slice A104_4 ((rd_T69 l0 x15_1).f4).length c104_4, .bool ((rd_T69 l0 x15_1).f5), .string (⟨#[]⟩ : ByteArray)]) ?_ 6 _ rfl; (with_reducible repeat (first | refine kN ?_ _ | refine kD ?_ | refine kA ?_ _)); refine blk_put (cs := #[.string ((rd_T69 l0 x15_1).f0), .int .i64 ((rd_T69 l0 x15_1).f1), .int .i64 ((rd_T69 l0 x15_1).f2), .int .i64 ((rd_T69 l0 x15_1).f3), .slice A104_4 ((rd_T69 l0 x15_1).f4).length c104_4, .bool false, .string (⟨#[]⟩ : ByteArray)]) ?_ 5 _ rfl; (with_reducible repeat (first | refine kN ?_ _ | refine kD ?_ | refine kA ?_ _)); refine blk_put (cs := #[.string ((rd_T69 l0 x15_1).f0), .int .i64 ((rd_T69 l0 x15_1).f1), .int .i64 ((rd_T69 l0 x15_1).f2), .int .i64 ((rd_T69 l0 x15_1).f3), .slice none 0 0, .bool false, .string (⟨#[]⟩ : ByteArray)]) ?_ 4 _ rfl; (with_reducible repeat (first | refine kN ?_ _ | refine kD ?_ | refine kA ?_ _)); refine blk_put (cs := #[.string ((rd_T69 l0 x15_1).f0), .int .i64 ((rd_T69 l0 x15_1).f1), .int .i64 ((rd_T69 l0 x15_1).f2), .int .i64 0, .slice none 0 0, .bool false, .string (⟨#[]⟩ : ByteArray)]) ?_ 3 _ rfl; (with_reducible repeat (first | refine kN ?_ _ | refine kD ?_ | refine kA ?_ _)); refine blk_put (cs := #[.string ((rd_T69 l0 x15_1).f0), .int .i64 ((rd_T69 l0 x15_1).f1), .int .i64 0, .int .i64 0, .slice none 0 0, .bool false, .string (⟨#[]⟩ : ByteArray)]) ?_ 2 _ rfl; (with_reducible repeat (first | refine kN ?_ _ | refine kD ?_ | refine kA ?_ _)); refine blk_put (cs := #[.string ((rd_T69 l0 x15_1).f0), .int .i64 0, .int .i64 0, .int .i64 0, .slice none 0 0, .bool false, .string (⟨#[]⟩ : ByteArray)]) ?_ 1 _ rfl; (with_reducible repeat (first | refine kN ?_ _ | refine kD ?_ | refine kA ?_ _)); refine blk_put (cs := #[.string (⟨#[]⟩ : ByteArray), .int .i64 0, .int .i64 0, .int .i64 0, .slice none 0 0, .bool false, .string (⟨#[]⟩ : ByteArray)]) ?_ 0 _ rfl; (with_reducible repeat (first | refine kN ?_ _ | refine kD ?_ | refine kA ?_ _)); exact BK105.out) hb); have n2_ := Aside0.mk (below_step (by repeat (first | (with_reducible first | exact HB.out | apply bA | apply bN | apply bD | refine below_set ?_ GE105.out) | exact HB.out)) hb); clear HO_5 BK105 HB; have HO_5 := n0_; have BK105 := n1_; have HB := n2_; clear n0_ n1_ n2_; (try clear hb); (try clear hb2); (try clear hk); (try clear hi); have hcz30_0 := cz BK105.out 0; have hcz30_1 := cz BK105.out 1; have hcz30_2 := cz BK105.out 2; have hcz30_3 := cz BK105.out 3; have hcz30_4 := cz BK105.out 4; have hcz30_5 := cz BK105.out 5; have hcz30_6 := cz BK105.out 6; have hfz30_0 := blk_frozen BK105.out 0; have hfz30_1 := blk_frozen BK105.out 1; have hfz30_2 := blk_frozen BK105.out 2; have hfz30_3 := blk_frozen BK105.out 3; have hfz30_4 := blk_frozen BK105.out 4; have hfz30_5 := blk_frozen BK105.out 5; have hfz30_6 := blk_frozen BK105.out 6) | ((with_reducible refine gate_callee (f := 68) rfl ?_); refine gL (some 39) Tryd.func68 #[.slice (some ad104) l0.length c0, .string ((rd_T69 l0 x15_1).f6)] ?_; (with_reducible refine (impl_fieldOf.calls _ _ l0 ((rd_T69 l0 x15_1).f6) t109 _ ?side1 ?side2 A20.out).mono ?_); (case side1 => repeat (first | exact (Kd.C_below HR0.out HB.out) | (with_reducible first | refine cA ?_ _ | refine cN ?_ _ | refine cD ?_))); (case side2 => exact HC0.out); rintro e w31 ⟨rfl, hb⟩; refine ⟨_, rfl, ?_⟩; have n0_ := Aside0.mk (Kd.R_below (by (with_reducible repeat (first | apply rA | apply rN | apply rD)); exact HO_5.out) hb); have n1_ := Aside0.mk (blk_below (by (with_reducible repeat (first | refine kN ?_ _ | refine kD ?_ | refine kA ?_ _)); exact BK105.out) hb); have n2_ := Aside0.mk (below_step (eI HB) hb); clear HO_5 BK105 HB; have HO_5 := n0_; have BK105 := n1_; have HB := n2_; clear n0_ n1_ n2_; (try clear hb); (try clear hb2); (try clear hk); (try clear hi); obtain ⟨Ao32, co32, eo32⟩ := Kd.R_slice HO_5.out; subst eo32; have p110 : 0 ≤ (t109 : Int) := of_decide_eq_true (by first | (with_reducible assumption) | assumption); have q110 : t109 < (x5_1.length : Int) := of_decide_eq_true (by first | (with_reducible assumption) | assumption); obtain ⟨ad110, e110, hx110_0⟩ := Kd.at_bool (Kd.R_reads' HO_5.out).2.2 t109 p110 q110; (try rw [← Nbq23.out] at hx110_0); cases e110; replace p110 := eq_true p110; replace q110 := eq_true q110; have p26 : 0 ≤ (x15_1 : Int) := of_decide_eq_true (by first | (with_reducible assumption) | assumption); have q26 : (x15_1 : Int) < ((x5_1.length : Int) : Int) := of_decide_eq_true (by first | (with_reducible assumption) | assumption); obtain ⟨go26, co26, eo26, gb26, gl26, cl26, HG26⟩ := Kd.R_form HO_5.out (by omega); (first | cases eo26 | (injection eo26 with ea_ en_ ec_; (first | subst ea_ | (injection ea_ with ea_; subst ea_)); subst ec_; clear en_)); have GB26 := Aside0.mk gb26; have GG26 := Aside0.mk HG26; clear gb26 gl26 HG26; (first | simp only [add_plain] at hx110_0 | skip); obtain ⟨hx26_0, hf26_0⟩ := Kd.R_celln false HO_5.out (x15_1 : Int) p26 q26; replace p26 := eq_true p26; replace q26 := eq_true q26; obtain ⟨hy33_, hz33_⟩ := Kd.R_celln false HO_5.out (x15_1 : Int) (of_decide_eq_true (by first | (with_reducible assumption) | assumption)) (of_decide_eq_true (by first | (with_reducible assumption) | assumption)); have HP33 := Kd.R_putg HO_5.out (x15_1 : Int) (t107.toList == ([121, 101, 115] : List UInt8))) | ((with_reducible refine gate_store (t := 4) (p := 46) rfl ?_); refine store_event (t := 4) (p := 46) (v := ?vo_w34) (w1 := (w31.setCell ⟨go26, (x15_1 : Int).toNat, none⟩ (.bool (t107.toList == ([121, 101, 115] : List UInt8))))) ?hg ?ho ?hn ?hr ?_; (case ho => rfl); (case hg => rfl); (case hn => rfl); (case hr => first | (go_simp; done) | (go_simp; rfl)); intro w34 hw; have hg : w31.grownBy w34 (some go26) := (by rw [hw]; exact HP33.2); have hp_ : Kd.R Kd.bool 4 w34 w.heap.size (fun _ => True) (.slice (some ⟨go26, 0, none⟩) x5_1.length co32) y111 := (by rw [hw, Ny111.out]; exact HP33.1); clear HP33; have n0_ := Aside0.mk (hp_); have n1_ := Aside0.mk (blk_grown (by (with_reducible repeat (first | refine kN ?_ _ | refine kD ?_ | refine kA ?_ _)); exact BK105.out) hg (Kd.R_ne HO_5.out BK105.out (by decide))); have n2_ := Aside0.mk ((by rw [hw]; exact below_set (HB.out) GB26.out : Below w.heap.size w w34)); clear HO_5 BK105 HB; have HO_5 := n0_; have BK105 := n1_; have HB := n2_; clear n0_ n1_ n2_ hg hw hp_))
             go_roundg k1
             case measure => have := HK1.out; omega
             case rel => exact ⟨(y111), (wrap64 (x15_1 + 1)), (by first | rfl | (simp; done) | (simp [*]; done)), H', ⟨by have := HK1.out; omega⟩, ⟨rI HO_5⟩, ⟨eI HB⟩⟩
            ·rw [if_neg c25] at H
             exact absurd H (by simp)
           ·replace c24 := Bool.eq_false_iff.mpr c24
            subst c24; (rw [if_neg (show ¬ (false = true) by decide)] at H); (by_cases c35 : x15_1 < (x5_1.length : Int))
            ·rw [if_pos c35] at H
             (have c35b0 := decide_eq_true c35); clear c35; (obtain ⟨y112, hy112⟩ : ∃ y_ : List Bool, y_ = (x5_1.set (x15_1 : Int).toNat false) := ⟨_, rfl⟩); (replace H : (impl_visible.l0 k1 l0 l1 y112 l0 (l0.length : Int) (wrap64 (x15_1 + 1))) = some r := by first | (rw [hy112]; with_reducible exact H) | (have H2_ := (Option.bind_some _ _).symm.trans H; rw [hy112]; with_reducible exact H2_) | (have H2_ := (Option.bind_some _ _).symm.trans H; with_reducible exact H2_) | with_reducible exact H | (rw [hy112]; exact H) | exact H); (have Ny112 := Aside0.mk hy112); clear hy112; (have H' := Aside0.mk H); clear H; (have p104 : 0 ≤ (x15_1 : Int) := of_decide_eq_true (by first | (with_reducible assumption) | assumption)); (have q104 : x15_1 < (l0.length : Int) := of_decide_eq_true (by first | (with_reducible assumption) | assumption)); (obtain ⟨ad104, A104_4, c104_4, e104, hx104_0, hx104_1, hx104_2, hx104_3, hx104_4, hx104_5, hx104_6, hl104_4, hi104_4⟩ := at_T69 HR0.out x15_1 p104 q104); ((try rw [← Nbq23.out] at hx104_5)); (cases e104); (replace hx104_0 := (HB.out.cell (bltc w _ hx104_0)).trans hx104_0); (replace hx104_1 := (HB.out.cell (bltc w _ hx104_1)).trans hx104_1); (replace hx104_2 := (HB.out.cell (bltc w _ hx104_2)).trans hx104_2); (replace hx104_3 := (HB.out.cell (bltc w _ hx104_3)).trans hx104_3); (replace hx104_4 := (HB.out.cell (bltc w _ hx104_4)).trans hx104_4); (replace hx104_5 := (HB.out.cell (bltc w _ hx104_5)).trans hx104_5); (replace hx104_6 := (HB.out.cell (bltc w _ hx104_6)).trans hx104_6); (have HR104_4 := Aside0.mk hi104_4); (have HC104_4 := Aside0.mk hl104_4); clear hi104_4 hl104_4; (replace p104 := eq_true p104); (replace q104 := eq_true q104)
             go_wp2_with (first | ((with_reducible refine gate_dst (N := 7) rfl ?_); refine box_event ?hg (N := 7) ?hd (cs := #[.string (⟨#[]⟩ : ByteArray), .int .i64 0, .int .i64 0, .int .i64 0, .slice none 0 0, .bool false, .string (⟨#[]⟩ : ByteArray)]) (t := 69) ?hr ?_; (case hd => rfl); (case hg => rfl); (case hr => first | (go_simp; done) | (go_simp; rfl)); intro gb105 hg w37 hbox hb; have n0_ := Aside0.mk (Kd.R_below (by (with_reducible repeat (first | apply rA | apply rN | apply rD)); exact HO_5.out) hb); have hB_ := bz (by repeat (first | (with_reducible first | exact HB.out | apply bA | apply bN | apply bD) | exact HB.out)) hb; have n1_ := Aside0.mk (below_step hB_ hb); have n2_ := Aside0.mk (hbox); have n3_ := Aside0.mk ((by rw [hg]; exact (below_size hB_) : w.heap.size ≤ gb105)); have n4_ := n3_; clear HO_5 HB; have HO_5 := n0_; have HB := n1_; have BK105 := n2_; have GW105 := n3_; have GE105 := n4_; clear n0_ n1_ n2_ n3_ n4_ hB_ hb hbox hg; have hcz38_0 := cz BK105.out 0; have hcz38_1 := cz BK105.out 1; have hcz38_2 := cz BK105.out 2; have hcz38_3 := cz BK105.out 3; have hcz38_4 := cz BK105.out 4; have hcz38_5 := cz BK105.out 5; have hcz38_6 := cz BK105.out 6; have hfz38_0 := blk_frozen BK105.out 0; have hfz38_1 := blk_frozen BK105.out 1; have hfz38_2 := blk_frozen BK105.out 2; have hfz38_3 := blk_frozen BK105.out 3; have hfz38_4 := blk_frozen BK105.out 4; have hfz38_5 := blk_frozen BK105.out 5; have hfz38_6 := blk_frozen BK105.out 6) | ((with_reducible refine gate_callee (f := 70) rfl ?_); refine gL (some 30) Tryd.func70 #[.slice A1 l1.length c1, .string ((rd_T69 l0 x15_1).f6)] ?_; (with_reducible refine (impl_answerOf.calls _ _ l1 ((rd_T69 l0 x15_1).f6) t107 t108 _ ?side1 ?side2 A19.out).mono ?_); (case side1 => exact Kd.C_below HR1.out (by repeat (first | (with_reducible first | exact HB.out | apply bA | apply bN | apply bD | refine below_set ?_ GE105.out) | exact HB.out))); (case side2 => exact HC1.out); rintro e w39 ⟨rfl, hb⟩; refine ⟨_, rfl, ?_⟩; have n0_ := Aside0.mk (Kd.R_below (by (with_reducible repeat (first | apply rA | apply rN | apply rD)); exact (Kd.R_mono (Kd.R_far (p := ⟨gb105, 6, none⟩) (Kd.R_far (p := ⟨gb105, 5, none⟩) (Kd.R_far (p := ⟨gb105, 4, none⟩) (Kd.R_far (p := ⟨gb105, 3, none⟩) (Kd.R_far (p := ⟨gb105, 2, none⟩) (Kd.R_far (p := ⟨gb105, 1, none⟩) (Kd.R_far (p := ⟨gb105, 0, none⟩) (Kd.R_types HO_5.out BK105.out (by decide)) (fun _ hk => hk.2) (.string ((rd_T69 l0 x15_1).f0))) (fun _ hk => hk.2) (.int .i64 ((rd_T69 l0 x15_1).f1))) (fun _ hk => hk.2) (.int .i64 ((rd_T69 l0 x15_1).f2))) (fun _ hk => hk.2) (.int .i64 ((rd_T69 l0 x15_1).f3))) (fun _ hk => hk.2) (.slice A104_4 ((rd_T69 l0 x15_1).f4).length c104_4)) (fun _ hk => hk.2) (.bool ((rd_T69 l0 x15_1).f5))) (fun _ hk => hk.2) (.string ((rd_T69 l0 x15_1).f6))) (fun _ h_ => h_.1))) hb); have n1_ := Aside0.mk (blk_below (g := gb105) (o := .cells #[.string ((rd_T69 l0 x15_1).f0), .int .i64 ((rd_T69 l0 x15_1).f1), .int .i64 ((rd_T69 l0 x15_1).f2), .int .i64 ((rd_T69 l0 x15_1).f3), .slice A104_4 ((rd_T69 l0 x15_1).f4).length c104_4, .bool ((rd_T69 l0 x15_1).f5), .string ((rd_T69 l0 x15_1).f6)] 69 (0, 0)) (by (with_reducible repeat (first | refine kN ?_ _ | refine kD ?_ | refine kA ?_ _)); refine blk_put (cs := #[.string ((rd_T69 l0 x15_1).f0), .int .i64 ((rd_T69 l0 x15_1).f1), .int .i64 ((rd_T69 l0 x15_1).f2), .int .i64 ((rd_T69 l0 x15_1).f3), .slice A104_4 ((rd_T69 l0 x15_1).f4).length c104_4, .bool ((rd_T69 l0 x15_1).f5), .string (⟨#[]⟩ : ByteArray)]) ?_ 6 _ rfl; (with_reducible repeat (first | refine kN ?_ _ | refine kD ?_ | refine kA ?_ _)); refine blk_put (cs := #[.string ((rd_T69 l0 x15_1).f0), .int .i64 ((rd_T69 l0 x15_1).f1), .int .i64 ((rd_T69 l0 x15_1).f2), .int .i64 ((rd_T69 l0 x15_1).f3), .slice A104_4 ((rd_T69 l0 x15_1).f4).length c104_4, .bool false, .string (⟨#[]⟩ : ByteArray)]) ?_ 5 _ rfl; (with_reducible repeat (first | refine kN ?_ _ | refine kD ?_ | refine kA ?_ _)); refine blk_put (cs := #[.string ((rd_T69 l0 x15_1).f0), .int .i64 ((rd_T69 l0 x15_1).f1), .int .i64 ((rd_T69 l0 x15_1).f2), .int .i64 ((rd_T69 l0 x15_1).f3), .slice none 0 0, .bool false, .string (⟨#[]⟩ : ByteArray)]) ?_ 4 _ rfl; (with_reducible repeat (first | refine kN ?_ _ | refine kD ?_ | refine kA ?_ _)); refine blk_put (cs := #[.string ((rd_T69 l0 x15_1).f0), .int .i64 ((rd_T69 l0 x15_1).f1), .int .i64 ((rd_T69 l0 x15_1).f2), .int .i64 0, .slice none 0 0, .bool false, .string (⟨#[]⟩ : ByteArray)]) ?_ 3 _ rfl; (with_reducible repeat (first | refine kN ?_ _ | refine kD ?_ | refine kA ?_ _)); refine blk_put (cs := #[.string ((rd_T69 l0 x15_1).f0), .int .i64 ((rd_T69 l0 x15_1).f1), .int .i64 0, .int .i64 0, .slice none 0 0, .bool false, .string (⟨#[]⟩ : ByteArray)]) ?_ 2 _ rfl; (with_reducible repeat (first | refine kN ?_ _ | refine kD ?_ | refine kA ?_ _)); refine blk_put (cs := #[.string ((rd_T69 l0 x15_1).f0), .int .i64 0, .int .i64 0, .int .i64 0, .slice none 0 0, .bool false, .string (⟨#[]⟩ : ByteArray)]) ?_ 1 _ rfl; (with_reducible repeat (first | refine kN ?_ _ | refine kD ?_ | refine kA ?_ _)); refine blk_put (cs := #[.string (⟨#[]⟩ : ByteArray), .int .i64 0, .int .i64 0, .int .i64 0, .slice none 0 0, .bool false, .string (⟨#[]⟩ : ByteArray)]) ?_ 0 _ rfl; (with_reducible repeat (first | refine kN ?_ _ | refine kD ?_ | refine kA ?_ _)); exact BK105.out) hb); have n2_ := Aside0.mk (below_step (by repeat (first | (with_reducible first | exact HB.out | apply bA | apply bN | apply bD | refine below_set ?_ GE105.out) | exact HB.out)) hb); clear HO_5 BK105 HB; have HO_5 := n0_; have BK105 := n1_; have HB := n2_; clear n0_ n1_ n2_; (try clear hb); (try clear hb2); (try clear hk); (try clear hi); have hcz40_0 := cz BK105.out 0; have hcz40_1 := cz BK105.out 1; have hcz40_2 := cz BK105.out 2; have hcz40_3 := cz BK105.out 3; have hcz40_4 := cz BK105.out 4; have hcz40_5 := cz BK105.out 5; have hcz40_6 := cz BK105.out 6; have hfz40_0 := blk_frozen BK105.out 0; have hfz40_1 := blk_frozen BK105.out 1; have hfz40_2 := blk_frozen BK105.out 2; have hfz40_3 := blk_frozen BK105.out 3; have hfz40_4 := blk_frozen BK105.out 4; have hfz40_5 := blk_frozen BK105.out 5; have hfz40_6 := blk_frozen BK105.out 6) | ((with_reducible refine gate_callee (f := 68) rfl ?_); refine gL (some 39) Tryd.func68 #[.slice (some ad104) l0.length c0, .string ((rd_T69 l0 x15_1).f6)] ?_; (with_reducible refine (impl_fieldOf.calls _ _ l0 ((rd_T69 l0 x15_1).f6) t109 _ ?side1 ?side2 A20.out).mono ?_); (case side1 => repeat (first | exact (Kd.C_below HR0.out HB.out) | (with_reducible first | refine cA ?_ _ | refine cN ?_ _ | refine cD ?_))); (case side2 => exact HC0.out); rintro e w41 ⟨rfl, hb⟩; refine ⟨_, rfl, ?_⟩; have n0_ := Aside0.mk (Kd.R_below (by (with_reducible repeat (first | apply rA | apply rN | apply rD)); exact HO_5.out) hb); have n1_ := Aside0.mk (blk_below (by (with_reducible repeat (first | refine kN ?_ _ | refine kD ?_ | refine kA ?_ _)); exact BK105.out) hb); have n2_ := Aside0.mk (below_step (by repeat (first | (with_reducible first | exact HB.out | apply bA | apply bN | apply bD | refine below_set ?_ GE105.out) | exact HB.out)) hb); clear HO_5 BK105 HB; have HO_5 := n0_; have BK105 := n1_; have HB := n2_; clear n0_ n1_ n2_; (try clear hb); (try clear hb2); (try clear hk); (try clear hi); obtain ⟨Ao42, co42, eo42⟩ := Kd.R_slice HO_5.out; subst eo42; have p110 : 0 ≤ (t109 : Int) := of_decide_eq_true (by first | (with_reducible assumption) | assumption); have q110 : t109 < (x5_1.length : Int) := of_decide_eq_true (by first | (with_reducible assumption) | assumption); obtain ⟨ad110, e110, hx110_0⟩ := Kd.at_bool (Kd.R_reads' HO_5.out).2.2 t109 p110 q110; (try rw [← Nbq23.out] at hx110_0); cases e110; replace p110 := eq_true p110; replace q110 := eq_true q110; have p36 : 0 ≤ (x15_1 : Int) := of_decide_eq_true (by first | (with_reducible assumption) | assumption); have q36 : (x15_1 : Int) < ((x5_1.length : Int) : Int) := of_decide_eq_true (by first | (with_reducible assumption) | assumption); obtain ⟨go36, co36, eo36, gb36, gl36, cl36, HG36⟩ := Kd.R_form HO_5.out (by omega); (first | cases eo36 | (injection eo36 with ea_ en_ ec_; (first | subst ea_ | (injection ea_ with ea_; subst ea_)); subst ec_; clear en_)); have GB36 := Aside0.mk gb36; have GG36 := Aside0.mk HG36; clear gb36 gl36 HG36; (first | simp only [add_plain] at hx110_0 | skip); obtain ⟨hx36_0, hf36_0⟩ := Kd.R_celln false HO_5.out (x15_1 : Int) p36 q36; replace p36 := eq_true p36; replace q36 := eq_true q36; obtain ⟨hy43_, hz43_⟩ := Kd.R_celln false HO_5.out (x15_1 : Int) (of_decide_eq_true (by first | (with_reducible assumption) | assumption)) (of_decide_eq_true (by first | (with_reducible assumption) | assumption)); have HP43 := Kd.R_putg HO_5.out (x15_1 : Int) false) | ((with_reducible refine gate_store (t := 4) (p := 46) rfl ?_); refine store_event (t := 4) (p := 46) (v := ?vo_w44) (w1 := (w41.setCell ⟨go36, (x15_1 : Int).toNat, none⟩ (.bool false))) ?hg ?ho ?hn ?hr ?_; (case ho => rfl); (case hg => rfl); (case hn => rfl); (case hr => first | (go_simp; done) | (go_simp; rfl)); intro w44 hw; have hg : w41.grownBy w44 (some go36) := (by rw [hw]; exact HP43.2); have hp_ : Kd.R Kd.bool 4 w44 w.heap.size (fun _ => True) (.slice (some ⟨go36, 0, none⟩) x5_1.length co42) y112 := (by rw [hw, Ny112.out]; exact HP43.1); clear HP43; have n0_ := Aside0.mk (hp_); have n1_ := Aside0.mk (blk_grown (by (with_reducible repeat (first | refine kN ?_ _ | refine kD ?_ | refine kA ?_ _)); exact BK105.out) hg (Kd.R_ne HO_5.out BK105.out (by decide))); have n2_ := Aside0.mk ((by rw [hw]; exact below_set (HB.out) GB36.out : Below w.heap.size w w44)); clear HO_5 BK105 HB; have HO_5 := n0_; have BK105 := n1_; have HB := n2_; clear n0_ n1_ n2_ hg hw hp_))
             go_roundg k1
             case measure => have := HK1.out; omega
             case rel => exact ⟨(y112), (wrap64 (x15_1 + 1)), (by first | rfl | (simp; done) | (simp [*]; done)), H', ⟨by have := HK1.out; omega⟩, ⟨by (with_reducible repeat (first | apply rA | apply rN | apply rD)); exact HO_5.out⟩, ⟨by repeat (first | (with_reducible first | exact HB.out | apply bA | apply bN | apply bD | refine below_set ?_ GE105.out) | exact HB.out)⟩⟩
            ·rw [if_neg c35] at H
             exact absurd H (by simp)
          ·rw [if_neg c22] at H
           exact absurd H (by simp)
         ·rw [if_neg c21] at H
          exact absurd H (by simp)
       ·rw [if_neg c9] at H
        exact absurd H (by simp)
      ·rw [if_neg c8] at H
       exact absurd H (by simp)
     ·rw [if_neg c7] at H
      (have c7b0 := decide_eq_false c7); clear c7; (obtain rfl := Option.some.inj H); (go_wp2); go_ret; (exact ⟨_, by first | rfl | (simp [errW_none, errW_some] <;> rfl) | (simp [*, errW_none, errW_some] <;> rfl), rI HO_5, eI HB⟩)
  ·rw [if_neg c4] at H
   exact absurd H (by simp)
 ·rw [if_neg c3] at H
  exact absurd H (by simp)

end Go.Proofs.YtdogpphfofimeaaDoor.X
namespace Go.Proofs
open Go.Shelf
def Tryd.laysM171_ren : Go.Shelf.Ren := ⟨fun | 171 => 85 | 243 => 110 | 246 => 120 | 283 => 129 | 284 => 130 | 285 => 131 | 286 => 132 | 129 => 146 | 317 => 145 | 318 => 147 | 319 => 148 | 320 => 149 | 337 => 155 | 338 => 156 | n => n, fun | 3 => 3 | 9 => 9 | 2 => 2 | 4 => 4 | 171 => 139 | 0 => 0 | 53 => 85 | 37 => 45 | 5 => 5 | 173 => 142 | 212 => 154 | 51 => 155 | 20 => 20 | 213 => 156 | 46 => 133 | 232 => 175 | 233 => 176 | n => n, fun | 17 => 1 | 18 => 6 | 19 => 7 | n => n⟩
theorem Tryd.laysM171 : Go.Proofs.LaysM.n171 Tryd.prog Tryd.laysM171_ren := {
  mixed := by kernel_rfl
  f129 := Tryd.func146.trans (congrArg some (by kernel_rfl))
  f171 := Tryd.func85.trans (congrArg some (by kernel_rfl))
  f243 := Tryd.func110.trans (congrArg some (by kernel_rfl))
  f246 := Tryd.func120.trans (congrArg some (by kernel_rfl))
  f283 := Tryd.func129.trans (congrArg some (by kernel_rfl))
  f284 := Tryd.func130.trans (congrArg some (by kernel_rfl))
  f285 := Tryd.func131.trans (congrArg some (by kernel_rfl))
  f286 := Tryd.func132.trans (congrArg some (by kernel_rfl))
  f317 := Tryd.func145.trans (congrArg some (by kernel_rfl))
  f318 := Tryd.func147.trans (congrArg some (by kernel_rfl))
  f319 := Tryd.func148.trans (congrArg some (by kernel_rfl))
  f320 := Tryd.func149.trans (congrArg some (by kernel_rfl))
  f337 := Tryd.func155.trans (congrArg some (by kernel_rfl))
  f338 := Tryd.func156.trans (congrArg some (by kernel_rfl))
  t0 := Tryd.underlying0
  a0 := Tryd.isAgg0
  z0 := Tryd.sizeOf0
  v0 := Tryd.zeroValue0
  t2 := Tryd.underlying2
  a2 := Tryd.isAgg2
  z2 := Tryd.sizeOf2
  v2 := Tryd.zeroValue2
  t3 := Tryd.underlying3
  a3 := Tryd.isAgg3
  z3 := Tryd.sizeOf3
  v3 := Tryd.zeroValue3
  t4 := Tryd.underlying4
  a4 := Tryd.isAgg4
  z4 := Tryd.sizeOf4
  v4 := Tryd.zeroValue4
  t5 := Tryd.underlying5
  a5 := Tryd.isAgg5
  z5 := Tryd.sizeOf5
  v5 := Tryd.zeroValue5
  t9 := Tryd.underlying9
  a9 := Tryd.isAgg9
  z9 := Tryd.sizeOf9
  v9 := Tryd.zeroValue9
  t20 := Tryd.underlying20
  a20 := Tryd.isAgg20
  z20 := Tryd.sizeOf20
  v20 := Tryd.zeroValue20
  t37 := Tryd.underlying45
  a37 := Tryd.isAgg45
  z37 := Tryd.sizeOf45
  v37 := Tryd.zeroValue45
  t46 := Tryd.underlying133
  a46 := Tryd.isAgg133
  z46 := Tryd.sizeOf133
  v46 := Tryd.zeroValue133
  t51 := Tryd.underlying155
  a51 := Tryd.isAgg155
  z51 := Tryd.sizeOf155
  v51 := Tryd.zeroValue155
  t53 := Tryd.underlying85
  a53 := Tryd.isAgg85
  z53 := Tryd.sizeOf85
  v53 := Tryd.zeroValue85
  t171 := Tryd.underlying139
  a171 := Tryd.isAgg139
  z171 := Tryd.sizeOf139
  v171 := Tryd.zeroValue139
  t173 := Tryd.underlying142
  a173 := Tryd.isAgg142
  z173 := Tryd.sizeOf142
  v173 := Tryd.zeroValue142
  t212 := Tryd.underlying154
  a212 := Tryd.isAgg154
  z212 := Tryd.sizeOf154
  v212 := Tryd.zeroValue154
  t213 := Tryd.underlying156
  a213 := Tryd.isAgg156
  z213 := Tryd.sizeOf156
  t232 := Tryd.underlying175
  a232 := Tryd.isAgg175
  z232 := Tryd.sizeOf175
  v232 := Tryd.zeroValue175
  t233 := Tryd.underlying176
  a233 := Tryd.isAgg176
  z233 := Tryd.sizeOf176
  v233 := Tryd.zeroValue176
  g17 := by kernel_rfl
  g18 := by kernel_rfl
  g19 := by kernel_rfl
  i0 := by kernel_rfl
  i2 := by kernel_rfl
  i3 := by kernel_rfl
  i4 := by kernel_rfl
  i5 := by kernel_rfl
  i9 := by kernel_rfl
  i20 := by kernel_rfl
  i37 := by kernel_rfl
  i46 := by kernel_rfl
  i51 := by kernel_rfl
  i53 := by kernel_rfl
  i171 := by kernel_rfl
  i173 := by kernel_rfl
  i212 := by kernel_rfl
  i232 := by kernel_rfl
  i233 := by kernel_rfl
  m17 := by kernel_rfl
  m18 := by kernel_rfl
  m19 := by kernel_rfl }
open Go.RowKit Go.Sort Go.Lib in
/-- strconv.Itoa: "Itoa is equivalent to FormatInt(int64(i), 10).": i's DECIMAL NUMERAL ('Lib.itoa': a '-' where i is negative, then the digits), FOR EVERY int. The world behind the call: the world before it, new blocks behind the heap (the library's 'var a [24]byte'), draws. (LAID: no walk: one application.) -/
theorem Tryd.strconv_Itoa (n : Int) (h0 : -9223372036854775808 ≤ n) (h1 : n ≤ 9223372036854775807) (w : World) (htab : Lib.TabIs Tryd.prog w "internal/strconv.uint64pow10" .u64 Lib.pow10Tab) :
    Calls Tryd.prog 85 #[.int .i64 n] w fun e w' => e = .returned (.string ⟨(Lib.itoa n).toArray⟩) ∧ ∃ k os, w' = grow (w.drewN k) os := Any.strconv_Itoa Tryd.laysM171 n h0 h1 w htab
def Tryd.laysC172_ren : Go.Shelf.Ren := ⟨fun | 172 => 118 | 244 => 127 | 245 => 128 | 247 => 140 | 279 => 141 | 280 => 142 | 281 => 143 | 282 => 144 | 287 => 152 | 316 => 153 | 171 => 85 | 205 => 154 | 321 => 157 | 322 => 158 | 243 => 110 | 246 => 120 | 283 => 129 | 284 => 130 | 285 => 131 | 286 => 132 | 129 => 146 | 317 => 145 | 318 => 147 | 319 => 148 | 320 => 149 | 337 => 155 | 338 => 156 | n => n, fun | 9 => 9 | 3 => 3 | 75 => 124 | 76 => 125 | 4 => 4 | 5 => 5 | 167 => 147 | 37 => 45 | 0 => 0 | 85 => 148 | 2 => 2 | 168 => 150 | 53 => 85 | 175 => 164 | 46 => 133 | 210 => 168 | 127 => 132 | 145 => 174 | 143 => 172 | 21 => 21 | 171 => 139 | 173 => 142 | 212 => 154 | 51 => 155 | 20 => 20 | 213 => 156 | 232 => 175 | 233 => 176 | 80 => 127 | n => n, fun | 15 => 4 | 16 => 5 | 17 => 1 | 18 => 6 | 19 => 7 | n => n⟩
theorem Tryd.laysC172 : Go.Proofs.LaysC.n172 Tryd.prog Tryd.laysC172_ren := {
  mixed := by kernel_rfl
  f129 := Tryd.func146.trans (congrArg some (by kernel_rfl))
  f171 := Tryd.func85.trans (congrArg some (by kernel_rfl))
  f172 := Tryd.func118.trans (congrArg some (by kernel_rfl))
  f205 := Tryd.func154.trans (congrArg some (by kernel_rfl))
  f243 := Tryd.func110.trans (congrArg some (by kernel_rfl))
  f244 := Tryd.func127.trans (congrArg some (by kernel_rfl))
  f245 := Tryd.func128.trans (congrArg some (by kernel_rfl))
  f246 := Tryd.func120.trans (congrArg some (by kernel_rfl))
  f247 := Tryd.func140.trans (congrArg some (by kernel_rfl))
  f279 := Tryd.func141.trans (congrArg some (by kernel_rfl))
  f280 := Tryd.func142.trans (congrArg some (by kernel_rfl))
  f281 := Tryd.func143.trans (congrArg some (by kernel_rfl))
  f282 := Tryd.func144.trans (congrArg some (by kernel_rfl))
  f283 := Tryd.func129.trans (congrArg some (by kernel_rfl))
  f284 := Tryd.func130.trans (congrArg some (by kernel_rfl))
  f285 := Tryd.func131.trans (congrArg some (by kernel_rfl))
  f286 := Tryd.func132.trans (congrArg some (by kernel_rfl))
  f287 := Tryd.func152.trans (congrArg some (by kernel_rfl))
  f316 := Tryd.func153.trans (congrArg some (by kernel_rfl))
  f317 := Tryd.func145.trans (congrArg some (by kernel_rfl))
  f318 := Tryd.func147.trans (congrArg some (by kernel_rfl))
  f319 := Tryd.func148.trans (congrArg some (by kernel_rfl))
  f320 := Tryd.func149.trans (congrArg some (by kernel_rfl))
  f321 := Tryd.func157.trans (congrArg some (by kernel_rfl))
  f322 := Tryd.func158.trans (congrArg some (by kernel_rfl))
  f337 := Tryd.func155.trans (congrArg some (by kernel_rfl))
  f338 := Tryd.func156.trans (congrArg some (by kernel_rfl))
  t0 := Tryd.underlying0
  a0 := Tryd.isAgg0
  z0 := Tryd.sizeOf0
  v0 := Tryd.zeroValue0
  t2 := Tryd.underlying2
  a2 := Tryd.isAgg2
  z2 := Tryd.sizeOf2
  v2 := Tryd.zeroValue2
  t3 := Tryd.underlying3
  a3 := Tryd.isAgg3
  z3 := Tryd.sizeOf3
  v3 := Tryd.zeroValue3
  t4 := Tryd.underlying4
  a4 := Tryd.isAgg4
  z4 := Tryd.sizeOf4
  v4 := Tryd.zeroValue4
  t5 := Tryd.underlying5
  a5 := Tryd.isAgg5
  z5 := Tryd.sizeOf5
  v5 := Tryd.zeroValue5
  t9 := Tryd.underlying9
  a9 := Tryd.isAgg9
  z9 := Tryd.sizeOf9
  v9 := Tryd.zeroValue9
  t20 := Tryd.underlying20
  a20 := Tryd.isAgg20
  z20 := Tryd.sizeOf20
  v20 := Tryd.zeroValue20
  t21 := Tryd.underlying21
  a21 := Tryd.isAgg21
  z21 := Tryd.sizeOf21
  v21 := Tryd.zeroValue21
  t37 := Tryd.underlying45
  a37 := Tryd.isAgg45
  z37 := Tryd.sizeOf45
  v37 := Tryd.zeroValue45
  t46 := Tryd.underlying133
  a46 := Tryd.isAgg133
  z46 := Tryd.sizeOf133
  v46 := Tryd.zeroValue133
  t51 := Tryd.underlying155
  a51 := Tryd.isAgg155
  z51 := Tryd.sizeOf155
  v51 := Tryd.zeroValue155
  t53 := Tryd.underlying85
  a53 := Tryd.isAgg85
  z53 := Tryd.sizeOf85
  v53 := Tryd.zeroValue85
  t75 := Tryd.underlying124
  a75 := Tryd.isAgg124
  z75 := Tryd.sizeOf124
  v75 := Tryd.zeroValue124
  t76 := Tryd.underlying125
  a76 := Tryd.isAgg125
  z76 := Tryd.sizeOf125
  v76 := Tryd.zeroValue125
  t85 := Tryd.underlying148
  a85 := Tryd.isAgg148
  z85 := Tryd.sizeOf148
  v85 := Tryd.zeroValue148
  t127 := Tryd.underlying132
  a127 := Tryd.isAgg132
  z127 := Tryd.sizeOf132
  v127 := Tryd.zeroValue132
  t143 := Tryd.underlying172
  a143 := Tryd.isAgg172
  z143 := Tryd.sizeOf172
  v143 := Tryd.zeroValue172
  t145 := Tryd.underlying174
  a145 := Tryd.isAgg174
  z145 := Tryd.sizeOf174
  v145 := Tryd.zeroValue174
  t167 := Tryd.underlying147
  a167 := Tryd.isAgg147
  z167 := Tryd.sizeOf147
  v167 := Tryd.zeroValue147
  t168 := Tryd.underlying150
  a168 := Tryd.isAgg150
  z168 := Tryd.sizeOf150
  v168 := Tryd.zeroValue150
  t171 := Tryd.underlying139
  a171 := Tryd.isAgg139
  z171 := Tryd.sizeOf139
  v171 := Tryd.zeroValue139
  t173 := Tryd.underlying142
  a173 := Tryd.isAgg142
  z173 := Tryd.sizeOf142
  v173 := Tryd.zeroValue142
  t175 := Tryd.underlying164
  a175 := Tryd.isAgg164
  z175 := Tryd.sizeOf164
  v175 := Tryd.zeroValue164
  t210 := Tryd.underlying168
  a210 := Tryd.isAgg168
  z210 := Tryd.sizeOf168
  v210 := Tryd.zeroValue168
  t212 := Tryd.underlying154
  a212 := Tryd.isAgg154
  z212 := Tryd.sizeOf154
  v212 := Tryd.zeroValue154
  t213 := Tryd.underlying156
  a213 := Tryd.isAgg156
  z213 := Tryd.sizeOf156
  t232 := Tryd.underlying175
  a232 := Tryd.isAgg175
  z232 := Tryd.sizeOf175
  v232 := Tryd.zeroValue175
  t233 := Tryd.underlying176
  a233 := Tryd.isAgg176
  z233 := Tryd.sizeOf176
  v233 := Tryd.zeroValue176
  g15 := by kernel_rfl
  g16 := by kernel_rfl
  g17 := by kernel_rfl
  g18 := by kernel_rfl
  g19 := by kernel_rfl
  t80 := Tryd.underlying127
  a80 := Tryd.isAgg127
  z80 := Tryd.sizeOf127
  v80 := Tryd.zeroValue127
  i0 := by kernel_rfl
  i2 := by kernel_rfl
  i3 := by kernel_rfl
  i4 := by kernel_rfl
  i5 := by kernel_rfl
  i9 := by kernel_rfl
  i20 := by kernel_rfl
  i21 := by kernel_rfl
  i37 := by kernel_rfl
  i46 := by kernel_rfl
  i51 := by kernel_rfl
  i53 := by kernel_rfl
  i75 := by kernel_rfl
  i76 := by kernel_rfl
  i80 := by kernel_rfl
  i85 := by kernel_rfl
  i127 := by kernel_rfl
  i143 := by kernel_rfl
  i145 := by kernel_rfl
  i167 := by kernel_rfl
  i168 := by kernel_rfl
  i171 := by kernel_rfl
  i173 := by kernel_rfl
  i175 := by kernel_rfl
  i210 := by kernel_rfl
  i212 := by kernel_rfl
  i232 := by kernel_rfl
  i233 := by kernel_rfl
  m15 := by kernel_rfl
  m16 := by kernel_rfl
  m17 := by kernel_rfl
  m18 := by kernel_rfl
  m19 := by kernel_rfl
  c0 := by kernel_rfl
  c2 := by kernel_rfl
  c3 := by kernel_rfl
  c4 := by kernel_rfl
  c5 := by kernel_rfl
  c9 := by kernel_rfl
  c20 := by kernel_rfl
  c21 := by kernel_rfl
  c37 := by kernel_rfl
  c46 := by kernel_rfl
  c51 := by kernel_rfl
  c53 := by kernel_rfl
  c75 := by kernel_rfl
  c76 := by kernel_rfl
  c80 := by kernel_rfl
  c85 := by kernel_rfl
  c127 := by kernel_rfl
  c143 := by kernel_rfl
  c145 := by kernel_rfl
  c167 := by kernel_rfl
  c168 := by kernel_rfl
  c171 := by kernel_rfl
  c173 := by kernel_rfl
  c175 := by kernel_rfl
  c210 := by kernel_rfl
  c212 := by kernel_rfl
  c213 := by kernel_rfl
  c232 := by kernel_rfl
  c233 := by kernel_rfl }
open Go.RowKit in
/-- strconv.Atoi, AT EVERY STRING THAT SPELLS AN int ('Lib.atoiAll .. = .ok v'; of whatever length: leading zeros count): v, AND NO ERROR. The world: as it was, or with the one new row that '[]byte(..)' lays. (LAID: no walk: one application.) -/
theorem Tryd.strconv_Atoi_ok (s : ByteArray) (hmax : s.size ≤ 9223372036854775806) (v : Int) (h : Lib.atoiAll s.data.toList = .ok v) (w : World) :
    Calls Tryd.prog 118 #[.string s] w fun e w' => e = .returned (.tuple #[.int .i64 v, .nilIface]) ∧ (w' = w ∨ ∃ t, w' = Lib.bytesWorld w 5 t) := Any.strconv_Atoi_ok Tryd.laysC172 s hmax v h w
open Go.RowKit in
/-- strconv.Atoi, AT EVERY NUMERAL THAT NO int HOLDS ('.range'): THE GREATEST OR THE LEAST int, BY THE SIGN ('Lib.atoiSat'), AND AN ERROR THAT IS NOT nil: a *NumError in a new block N: {Func: "Atoi", Num: s's bytes, Err: what the variable ErrRange holds}. Of what was there nothing has turned. (LAID: no walk: one application.) -/
theorem Tryd.strconv_Atoi_range (s : ByteArray) (hlim : s.size ≤ 281474976710656) (h : Lib.atoiAll s.data.toList = .range) (ev : Value) (w : World) (hv : w.cell? ⟨5, 0, none⟩ = some ev) (hev : ev = .nilIface ∨ ∃ te pe, ev = .iface te pe) :
    Calls Tryd.prog 118 #[.string s] w fun e w' => ∃ N, e = .returned (.tuple #[.int .i64 (Lib.atoiSat s.data.toList), .iface 150 (.pointer (some ⟨N, 0, none⟩))]) ∧ w.heap.size ≤ N ∧ w'.heap[N]? = some (.cells #[.string ⟨#[65, 116, 111, 105]⟩, .string s, ev] 168 (0, 0)) ∧ Below w.heap.size w w' := Any.strconv_Atoi_range Tryd.laysC172 s hlim h ev w hv hev
end Go.Proofs
namespace Go.Proofs.YtdogpphfofimeaaDoor.X
open Go.RowKit Go.Proofs.YtdogpphfofimeaaDoorW.PrintWords Go.Proofs.YtdogpphfofimeaaDoorW.PrintLast Go.Proofs.YtdogpphfofimeaaDoorW.PrintMore Go.Proofs.YtdogpphfofimeaaDoor.E
attribute [local go_sem] max2_int min2_int max_two min_two max_three min_three max_four min_four   -- for this text's walks alone
set_option linter.unusedVariables false
set_option linter.unusedSimpArgs false
attribute [-simp] ByteArray.size_append ByteArray.size_extract
attribute [-go_sem] ByteArray.size_append'

/-! ### strconv_Itoa: function 85 -/
def strconv_Itoa.f (a0 : Int) : Option ByteArray := if -9223372036854775808 ≤ a0 ∧ a0 ≤ 9223372036854775807 then some ⟨(Lib.itoa a0).toArray⟩ else none
theorem strconv_Itoa.calls (a0 : Int) (r : ByteArray) (w : World) (hG : GT w) (h : strconv_Itoa.f a0 = some r) :
  Calls Tryd.prog 85 #[.int .i64 a0] w fun e w' => e = .returned (.string r) ∧ Below w.heap.size w w' := by
 (unfold strconv_Itoa.f at h); (split at h); (· (rename_i hc); (cases h); (refine (Tryd.strconv_Itoa a0 hc.1 hc.2 w hG).mono ?_); (rintro e w' ⟨rfl, k, os, rfl⟩); (exact ⟨rfl, Lib.below_grow _ _ (Nat.le_refl _) _ _⟩)); (· (cases h))

end Go.Proofs.YtdogpphfofimeaaDoor.X
