/- For all forms the law FnExactFormatForm answers true. No condition beyond what a reading tells.
This file (part 3 of 4) holds what the proof needs: plain functions with rounds and contracts written by programs of this work over the translation, and the lemmas. -/
import Derived.Test.YtdogpphfofimeaaDoorZFnExactFormatForm2
import Derived.Test.YtdogpphfofimeaaDoorZFnExactFormatForm1
import Derived.IntWalk
import Derived.Shelf.Abstract
import Derived.Shelf.Strings.Builder1
import Derived.Shelf.Strings.Builder2
import Derived.Shelf.Strings.OnBuilder
import Derived.Shelf.Strings.BuilderF
import Derived.Shelf.Utf8.RuneCount
import Derived.Shelf.Strconv.Atoi
import Derived.Shelf.Strconv.Itoa0
import Derived.Shelf.Strconv.Itoa1
import Derived.Shelf.LaysM
import Derived.Shelf.Strconv.Itoa2
import Derived.Shelf.Strconv.Itoa3
import Derived.Shelf.Strconv.AtoiErrFast
import Derived.Shelf.Strconv.ParseIntEmpty
import Derived.Shelf.Strconv.AtoiFail
import Derived.Shelf.Strconv.Clone
import Derived.Shelf.Strconv.SyntaxError
import Derived.Shelf.LaysC
import Derived.Shelf.Strconv.ToError
import Derived.Shelf.Strconv.AtoiErr
import Derived.Shelf.Strconv.Lower
import Derived.Shelf.Strconv.ParseUint10
import Derived.Shelf.Strconv.ParseUint10Empty
import Derived.Shelf.Strconv.ParseUint10Any
import Derived.Shelf.Strconv.ParseInt10
import Derived.Shelf.Strconv.AtoiLong
import Derived.Shelf.Strconv.AtoiInnerAll
import Derived.Shelf.Strconv.RangeError
import Derived.Shelf.Strconv.ToErrorRange
import Derived.Shelf.Strconv.AtoiAll
import Derived.Shelf.Strconv.ErrVarAll
import Derived.Shelf.Strings.Search1
import Derived.Shelf.Strings.Search2
import Derived.Shelf.Strings.Search3
import Derived.Shelf.Strings.Count
import Derived.Shelf.Strings.Shaped
import Derived.Shelf.Strings.Split
import Derived.Shelf.Strings.SplitShaped
import Derived.Shelf.Unicode.Decode
import Derived.Shelf.Strings.RuneCount
import Derived.Shelf.Strings.Explode
import Derived.Shelf.Unicode.DecodeSlow
import Derived.Shelf.Unicode.DecodeAny
import Derived.Shelf.Slices.Turned
import Derived.Test.YtdogpphfofimeaaDoorProg
import Derived.Lib.AppendIntMem
import Derived.Lib.SmallJoins
namespace Go.Proofs.YtdogpphfofimeaaDoor.X
open Go.RowKit Go.Proofs.YtdogpphfofimeaaDoorW.PrintWords Go.Proofs.YtdogpphfofimeaaDoorW.PrintLast Go.Proofs.YtdogpphfofimeaaDoorW.PrintMore
attribute [local go_sem] max2_int min2_int max_two min_two max_three min_three max_four min_four   -- for this text's walks alone
set_option linter.unusedVariables false
set_option linter.unusedSimpArgs false
attribute [-simp] ByteArray.size_append ByteArray.size_extract
attribute [-go_sem] ByteArray.size_append'

/-! ### laws_toFieldS: function 11 -/
def laws_toFieldS.l0 : Nat → List (S68) → List (S69) → Int → Option ((List (S69)))
 | 0, _, _, _ => none
 | k + 1, x0, x3, x4 => if x4 < (x0.length : Int) then (if 0 ≤ x4 then ((laws_toField.f k ((rd_T68 x0 x4).f0) ((rd_T68 x0 x4).f1) ((rd_T68 x0 x4).f2) ((rd_T68 x0 x4).f3) ((rd_T68 x0 x4).f4) ((rd_T68 x0 x4).f5) ((rd_T68 x0 x4).f6)).bind fun bt105 => (if x4 < (x3.length : Int) then (laws_toFieldS.l0 k x0 (x3.set (x4 : Int).toNat (⟨bt105.1, bt105.2.1, bt105.2.2.1, bt105.2.2.2.1, bt105.2.2.2.2.1, bt105.2.2.2.2.2.1, bt105.2.2.2.2.2.2⟩ : S69)) (wrap64 (x4 + 1))) else (none))) else (none)) else (some x3)
def laws_toFieldS.f (k : Nat) (l0 : List (S68)) : Option ((List (S69))) := if 0 ≤ (l0.length : Int) then (if ((l0.length : Int) : Int).toNat ≤ 3198579280802 then (laws_toFieldS.l0 k l0 (List.replicate ((l0.length : Int) : Int).toNat z69) 0) else (none)) else (none)
set_option maxHeartbeats 8000000 in
set_option maxRecDepth 100000 in
theorem laws_toFieldS.calls (k : Nat) (A0 : Option Addr) (c0 : Nat) (l0 : List (S68)) (r : List (S69)) (w : World) (hr0 : Kd.C k68 w A0 l0.length l0) (hc0 : l0.length ≤ c0) (h : laws_toFieldS.f k l0 = some r) :
  Calls Tryd.prog 11 #[.slice A0 l0.length c0] w fun e w' => ∃ v0_ : Value, e = .returned (v0_) ∧ Kd.S k69 69 w' w.heap.size (fun _ => True) v0_ r ∧ Below w.heap.size w w' := by
 (have hu68 := Tryd.underlying68); (have hu69 := Tryd.underlying69); (have HR0 := Aside0.mk hr0); (have HC0 := Aside0.mk hc0); clear hr0 hc0; (have HB := Aside0.mk (Below.refl w.heap.size w)); (unfold laws_toFieldS.f at h); (have H := h); clear h; (by_cases c2 : 0 ≤ (l0.length : Int))
 ·rw [if_pos c2] at H
  (have c2b0 := eq_true c2); (have c2b1 := decide_eq_true c2); clear c2; (by_cases c3 : ((l0.length : Int) : Int).toNat ≤ 3198579280802)
  ·rw [if_pos c3] at H
   (have c3b0 := eq_true c3); (have c3b1 := decide_eq_true c3); clear c3; (obtain ⟨y101, hy101⟩ : ∃ y_ : List (S69), y_ = (List.replicate ((l0.length : Int) : Int).toNat z69) := ⟨_, rfl⟩); (replace H : (laws_toFieldS.l0 k l0 y101 0) = some r := by first | (rw [hy101]; with_reducible exact H) | (have H2_ := (Option.bind_some _ _).symm.trans H; rw [hy101]; with_reducible exact H2_) | (have H2_ := (Option.bind_some _ _).symm.trans H; with_reducible exact H2_) | with_reducible exact H | (rw [hy101]; exact H) | exact H); (have Ny101 := Aside0.mk hy101); clear hy101; (have H' := Aside0.mk H); clear H; (go_enter Tryd.func11, Tryd.ntmps11); (go_wp2_with (first | ((with_reducible refine gate_dst (N := 7) rfl ?_); refine Kd.S_make k69 _ 69 rfl (N := 7) rfl 26 _ _ rfl (l0.length : Int) rfl rfl Tryd.underlying26 (.agg #[(.string ⟨#[]⟩), (.int .i64 0), (.int .i64 0), (.int .i64 0), (.slice none 0 0), (.bool false), (.string ⟨#[]⟩)]) 88 info69 rfl (by decide) (by omega) z69 (ok := fun _ => True) (okp := fun _ => True) (k69_mkM _ _ _ z69 (Kd.R_nil _ _ _ _ _)) (fun _ hk => hk) trivial odt (Nat.le_trans (Nat.mul_le_mul_right _ (odt : (l0.length : Int).toNat ≤ 3198579280802)) (by omega)) (Below.refl _ _) (Nat.le_refl _) ?_; intro v102 w4 ho5 hb hg_ hnew_; clear hg_ hnew_; (first | rw [← Ny101.out] at ho5 | (simp only [Int.reduceToNat] at ho5; rw [← Ny101.out] at ho5)); have hB_ := zI hb HB; have n0_ := Aside0.mk (Kd.S_lower ho5 (below_size hB_)); have n1_ := Aside0.mk (below_step hB_ hb); clear HB; have HO103 := n0_; have HB := n1_; clear n0_ n1_ hB_ hb ho5))); (go_loopg [4] k (fun kq v4 w' => ∃ (x3_1 : List (S69)) (x4_1 : Int), v4 = .int .i64 x4_1 ∧ Aside0 (laws_toFieldS.l0 kq l0 x3_1 x4_1 = some r) ∧ Aside0 (kq ≤ k) ∧ Aside0 (Kd.S k69 69 w' w.heap.size (fun _ => True) v102 x3_1) ∧ Aside0 (Below w.heap.size w w')))
   case atStart => exact ⟨(y101), (0), (by first | rfl | (simp; done) | (simp [*]; done)), H', ⟨Nat.le_refl _⟩, ⟨by (with_reducible repeat (first | apply Kd.S_alloc | apply Kd.S_drewN | apply Kd.S_drew)); exact HO103.out⟩, ⟨eI HB⟩⟩
   case round =>
    (clear H'); (try clear c1); (try clear c2); (try clear c2b0); (try clear c2b1); (try clear p2); (try clear c3); (try clear c3b0); (try clear c3b1); (obtain ⟨x3_1, x4_1, rfl, HA, HK1, HO_3, HB⟩ := hrel)
    cases gk with
    | zero => exact absurd HA.out (by simp [laws_toFieldS.l0])
    | succ k1 =>
     (have H := HA.out); clear HA; (simp only [laws_toFieldS.l0] at H); (by_cases c6 : x4_1 < (l0.length : Int))
     ·rw [if_pos c6] at H
      (have c6b0 := decide_eq_true c6); clear c6; (by_cases c7 : 0 ≤ x4_1)
      ·rw [if_pos c7] at H
       (have c7b0 := decide_eq_true c7); clear c7; (replace H := obS H); (obtain ⟨⟨t105, t106, t107, t108, t109, t112, t113⟩, A8, H⟩ := H); (replace H : (if x4_1 < (x3_1.length : Int) then (laws_toFieldS.l0 k1 l0 (x3_1.set (x4_1 : Int).toNat (⟨t105, t106, t107, t108, t109, t112, t113⟩ : S69)) (wrap64 (x4_1 + 1))) else (none)) = some r := H); (by_cases c9 : x4_1 < (x3_1.length : Int))
       ·rw [if_pos c9] at H
        (have c9b0 := decide_eq_true c9); clear c9; (obtain ⟨y114, hy114⟩ : ∃ y_ : List (S69), y_ = (x3_1.set (x4_1 : Int).toNat (⟨t105, t106, t107, t108, t109, t112, t113⟩ : S69)) := ⟨_, rfl⟩); (replace H : (laws_toFieldS.l0 k1 l0 y114 (wrap64 (x4_1 + 1))) = some r := by first | (rw [hy114]; with_reducible exact H) | (have H2_ := (Option.bind_some _ _).symm.trans H; rw [hy114]; with_reducible exact H2_) | (have H2_ := (Option.bind_some _ _).symm.trans H; with_reducible exact H2_) | with_reducible exact H | (rw [hy114]; exact H) | exact H); (have Ny114 := Aside0.mk hy114); clear hy114; (have H' := Aside0.mk H); clear H; (have p104 : 0 ≤ (x4_1 : Int) := odt); (have q104 : x4_1 < (l0.length : Int) := odt); (obtain ⟨ad104, A104_4, c104_4, e104, hx104_0, hx104_1, hx104_2, hx104_3, hx104_4, hx104_5, hx104_6, hl104_4, hi104_4⟩ := at_T68 HR0.out x4_1 p104 q104); (cases e104); (replace hx104_0 := hcI HB hx104_0); (replace hx104_1 := hcI HB hx104_1); (replace hx104_2 := hcI HB hx104_2); (replace hx104_3 := hcI HB hx104_3); (replace hx104_4 := hcI HB hx104_4); (replace hx104_5 := hcI HB hx104_5); (replace hx104_6 := hcI HB hx104_6); (have HR104_4 := Aside0.mk hi104_4); (have HC104_4 := Aside0.mk hl104_4); clear hi104_4 hl104_4; (replace p104 := eq_true p104); (replace q104 := eq_true q104)
        go_wp2_with (first | ((with_reducible refine gate_callee (f := 46) rfl ?_); refine gL (some 20) Tryd.func46 #[.agg #[.string ((rd_T68 l0 x4_1).f0), .int .i64 ((rd_T68 l0 x4_1).f1), .int .i64 ((rd_T68 l0 x4_1).f2), .int .i64 ((rd_T68 l0 x4_1).f3), .slice A104_4 ((rd_T68 l0 x4_1).f4).length c104_4, .bool ((rd_T68 l0 x4_1).f5), .string ((rd_T68 l0 x4_1).f6)]] ?_; (with_reducible refine (laws_toField.calls k1 ((rd_T68 l0 x4_1).f0) ((rd_T68 l0 x4_1).f1) ((rd_T68 l0 x4_1).f2) ((rd_T68 l0 x4_1).f3) _ _ ((rd_T68 l0 x4_1).f4) ((rd_T68 l0 x4_1).f5) ((rd_T68 l0 x4_1).f6) t105 t106 t107 t108 t109 t112 t113 _ ?side1 ?side2 A8.out).mono ?_); (case side1 => exact Kd.C_below HR104_4.out (eI HB)); (case side2 => exact HC104_4.out); rintro e w11 ⟨v110, rfl, ho0, hb⟩; refine ⟨_, rfl, ?_⟩; have n0_ := Aside0.mk (Kd.S_elder' (by (with_reducible repeat (first | apply Kd.S_alloc | apply Kd.S_drewN | apply Kd.S_drew)); exact HO_3.out) (Kd.R_base ho0) hb); have n1_ := Aside0.mk (Kd.R_lower ho0 (below_size (eI HB))); have n2_ := Aside0.mk (sI hb HB); clear HO_3 HB; have HO_3 := n0_; have HO111 := n1_; have HB := n2_; clear n0_ n1_ n2_; (try clear hb); (try clear hb2); (try clear hk); (try clear hi); (try clear ho0); have p10 : 0 ≤ (x4_1 : Int) := odt; have q10 : (x4_1 : Int) < ((x3_1.length : Int) : Int) := odt; obtain ⟨go10, co10, eo10, gb10, gl10, cl10, HG10⟩ := Kd.S_form HO_3.out (by omega); (first | cases eo10 | (injection eo10 with ea_ en_ ec_; (first | subst ea_ | (injection ea_ with ea_; subst ea_)); subst ec_; clear en_)); have GB10 := Aside0.mk gb10; have GG10 := Aside0.mk HG10; clear gb10 gl10 HG10; obtain ⟨_, ce10, hcl10, hM10, hcc10, hfr10, _, _⟩ := Kd.S_elem HO_3.out z69 (x4_1 : Int) p10 q10; obtain ⟨ve10_4, rfl, ge10_4⟩ := k69_openM hM10; have hx10_0 : w11.cell? ⟨go10, (x4_1 : Int).toNat * 7, none⟩ = some (.string ((rd_T69 x3_1 x4_1).f0)) := hcc10 0 _ rfl; have hx10_1 : w11.cell? ⟨go10, (x4_1 : Int).toNat * 7 + 1, none⟩ = some (.int .i64 ((rd_T69 x3_1 x4_1).f1)) := hcc10 1 _ rfl; have hx10_2 : w11.cell? ⟨go10, (x4_1 : Int).toNat * 7 + 2, none⟩ = some (.int .i64 ((rd_T69 x3_1 x4_1).f2)) := hcc10 2 _ rfl; have hx10_3 : w11.cell? ⟨go10, (x4_1 : Int).toNat * 7 + 3, none⟩ = some (.int .i64 ((rd_T69 x3_1 x4_1).f3)) := hcc10 3 _ rfl; have hx10_4 : w11.cell? ⟨go10, (x4_1 : Int).toNat * 7 + 4, none⟩ = some (ve10_4) := hcc10 4 _ rfl; have hx10_5 : w11.cell? ⟨go10, (x4_1 : Int).toNat * 7 + 5, none⟩ = some (.bool ((rd_T69 x3_1 x4_1).f5)) := hcc10 5 _ rfl; have hx10_6 : w11.cell? ⟨go10, (x4_1 : Int).toNat * 7 + 6, none⟩ = some (.string ((rd_T69 x3_1 x4_1).f6)) := hcc10 6 _ rfl; have hf10_0 : w11.frozen? ⟨go10, (x4_1 : Int).toNat * 7, none⟩ = false := hfr10 0; have hf10_1 : w11.frozen? ⟨go10, (x4_1 : Int).toNat * 7 + 1, none⟩ = false := hfr10 1; have hf10_2 : w11.frozen? ⟨go10, (x4_1 : Int).toNat * 7 + 2, none⟩ = false := hfr10 2; have hf10_3 : w11.frozen? ⟨go10, (x4_1 : Int).toNat * 7 + 3, none⟩ = false := hfr10 3; have hf10_4 : w11.frozen? ⟨go10, (x4_1 : Int).toNat * 7 + 4, none⟩ = false := hfr10 4; have hf10_5 : w11.frozen? ⟨go10, (x4_1 : Int).toNat * 7 + 5, none⟩ = false := hfr10 5; have hf10_6 : w11.frozen? ⟨go10, (x4_1 : Int).toNat * 7 + 6, none⟩ = false := hfr10 6; clear hcl10 hcc10 hfr10 hM10; replace p10 := eq_true p10; replace q10 := eq_true q10; have n_ := Aside0.mk (Kd.S_mono (ok' := (fun k_ => some k_ ≠ (v110 : Value).ownBlock)) HO_3.out (fun k_ hk => hk.2)); clear HO_3; have HO_3 := n_; clear n_; have HX12 := Aside0.mk (show Kd.S k69 69 w11 w.heap.size (fun k_ => ((fun _ => True)) k_ ∧ ¬ ((fun k_ => some k_ = (v110 : Value).ownBlock)) k_) (.slice (some ⟨go10, 0, none⟩) x3_1.length co10) x3_1 from (by (with_reducible repeat (first | apply Kd.S_alloc | apply Kd.S_drewN | apply Kd.S_drew)); exact Kd.S_mono HO_3.out (fun k_ hk => ⟨trivial, fun e_ => hk e_⟩))); obtain ⟨oki12, ce12, hcl12, hM12, hcc12, hfr12, hoki12, hH12⟩ := Kd.S_elem HX12.out z69 (x4_1 : Int) odt (by have h_ : (x4_1 : Int) < ((x3_1.length : Int) : Int) := odt; first | exact h_ | (have e_ := (Kd.S_reads' HO_3.out).1; omega) | simpa using h_); obtain ⟨ve12_4, rfl, ge12_4⟩ := k69_openM hM12; have HP12 := Kd.S_seg hH12 odt (by have h_ : (x4_1 : Int) < ((x3_1.length : Int) : Int) := odt; first | exact h_ | (have e_ := (Kd.S_reads' HO_3.out).1; omega) | simpa using h_) (seg := [.string t105, .int .i64 t106, .int .i64 t107, .int .i64 t108, v110, .bool t112, .string t113]) (j := 0) (show 7 ≤ 7 from by decide) (x' := (⟨t105, t106, t107, t108, t109, t112, t113⟩ : S69)) (k69_mkM _ _ _ (⟨t105, t106, t107, t108, t109, t112, t113⟩ : S69) (Kd.R_mono (Kd.R_tight rfl (Kd.R_mono (ok' := fun k_ => ((fun _ => True)) k_ ∧ k_ ≠ go10) (Kd.R_apart' (HO111.out) (Kd.S_typed HO_3.out) (by decide)) (fun k_ hk => ⟨trivial, fun e_ => (hk.2) (by rw [e_]; rfl)⟩))) (fun _ h_ => Or.inr (h_)))) (fun _ hk => hk) (fun k_ hk_ => ((Kd.R_mono (ok' := fun k_ => ((fun _ => True)) k_ ∧ k_ ≠ go10) (Kd.R_apart' (HO111.out) (Kd.S_typed HO_3.out) (by decide)) (fun k_ hk => ⟨trivial, fun e_ => (hk.2) (by rw [e_]; rfl)⟩))).1 k_ hk_.symm); have hx12_0 := hcc12 0 _ rfl; (try simp only [show (k69).sz = 7 from rfl, Nat.mul_one, Nat.add_zero] at hx12_0); have hf12_0 := hfr12 0; (try simp only [show (k69).sz = 7 from rfl, Nat.mul_one, Nat.add_zero] at hf12_0); have hx12_1 := hcc12 1 _ rfl; (try simp only [show (k69).sz = 7 from rfl, Nat.mul_one, Nat.add_zero] at hx12_1); have hf12_1 := hfr12 1; (try simp only [show (k69).sz = 7 from rfl, Nat.mul_one, Nat.add_zero] at hf12_1); have hx12_2 := hcc12 2 _ rfl; (try simp only [show (k69).sz = 7 from rfl, Nat.mul_one, Nat.add_zero] at hx12_2); have hf12_2 := hfr12 2; (try simp only [show (k69).sz = 7 from rfl, Nat.mul_one, Nat.add_zero] at hf12_2); have hx12_3 := hcc12 3 _ rfl; (try simp only [show (k69).sz = 7 from rfl, Nat.mul_one, Nat.add_zero] at hx12_3); have hf12_3 := hfr12 3; (try simp only [show (k69).sz = 7 from rfl, Nat.mul_one, Nat.add_zero] at hf12_3); have hx12_4 := hcc12 4 _ rfl; (try simp only [show (k69).sz = 7 from rfl, Nat.mul_one, Nat.add_zero] at hx12_4); have hf12_4 := hfr12 4; (try simp only [show (k69).sz = 7 from rfl, Nat.mul_one, Nat.add_zero] at hf12_4); have hx12_5 := hcc12 5 _ rfl; (try simp only [show (k69).sz = 7 from rfl, Nat.mul_one, Nat.add_zero] at hx12_5); have hf12_5 := hfr12 5; (try simp only [show (k69).sz = 7 from rfl, Nat.mul_one, Nat.add_zero] at hf12_5); have hx12_6 := hcc12 6 _ rfl; (try simp only [show (k69).sz = 7 from rfl, Nat.mul_one, Nat.add_zero] at hx12_6); have hf12_6 := hfr12 6; (try simp only [show (k69).sz = 7 from rfl, Nat.mul_one, Nat.add_zero] at hf12_6); clear hcl12 hcc12 hfr12 hM12 hoki12 hH12; have oc12_4 : ∀ (a_ : Addr) (m_ : Mode) (w_ : World), (store a_ (v110 : Value) m_).run Tryd.prog w_ = stored Tryd.prog w_ a_ v110 m_ := fun a_ m_ w_ => run_store Tryd.prog w_ a_ _ m_ (by obtain ⟨_, _, e_⟩ := Kd.R_slice HO111.out; rw [e_]; rfl)) | ((with_reducible refine gate_store (t := 69) (p := 21) rfl ?_); refine store_event (t := 69) (p := 21) (v := ?vo_w13) (w1 := (((((((w11.setCell ⟨go10, (x4_1 : Int).toNat * 7, none⟩ (.string t105)).setCell ⟨go10, (x4_1 : Int).toNat * 7 + 1, none⟩ (.int .i64 t106)).setCell ⟨go10, (x4_1 : Int).toNat * 7 + 2, none⟩ (.int .i64 t107)).setCell ⟨go10, (x4_1 : Int).toNat * 7 + 3, none⟩ (.int .i64 t108)).setCell ⟨go10, (x4_1 : Int).toNat * 7 + 4, none⟩ (v110)).setCell ⟨go10, (x4_1 : Int).toNat * 7 + 5, none⟩ (.bool t112)).setCell ⟨go10, (x4_1 : Int).toNat * 7 + 6, none⟩ (.string t113))) ?hg ?ho ?hn ?hr ?_; (case ho => rfl); (case hg => rfl); (case hn => rfl); (case hr => first | (go_simp; done) | (go_simp; rfl)); intro w13 hw; have hg : w11.grownBy w13 (some go10) := (by rw [hw]; exact HP12.2); have hp_ : Kd.S k69 69 w13 w.heap.size (fun _ => True) (.slice (some ⟨go10, 0, none⟩) x3_1.length co10) y114 := (by rw [hw, Ny114.out]; exact HP12.1); clear HP12; have n0_ := Aside0.mk (hp_); have n1_ := Aside0.mk ((by rw [hw]; exact below_set (below_set (below_set (below_set (below_set (below_set (below_set (HB.out) GB10.out) GB10.out) GB10.out) GB10.out) GB10.out) GB10.out) GB10.out : Below w.heap.size w w13)); clear HO_3 HB HO111; have HO_3 := n0_; have HB := n1_; clear n0_ n1_ hg hw hp_))
        go_roundg k1
        case measure => have := HK1.out; omega
        case rel => exact ⟨(y114), (wrap64 (x4_1 + 1)), (by first | rfl | (simp; done) | (simp [*]; done)), H', ⟨by have := HK1.out; omega⟩, ⟨by (with_reducible repeat (first | apply Kd.S_alloc | apply Kd.S_drewN | apply Kd.S_drew)); exact HO_3.out⟩, ⟨eI HB⟩⟩
       ·rw [if_neg c9] at H
        exact absurd H (by simp)
      ·rw [if_neg c7] at H
       exact absurd H (by simp)
     ·rw [if_neg c6] at H
      (have c6b0 := decide_eq_false c6); clear c6; (obtain rfl := Option.some.inj H); (go_wp2); go_ret; (exact ⟨_, by first | rfl | (simp [errW_none, errW_some] <;> rfl) | (simp [*, errW_none, errW_some] <;> rfl), by (with_reducible repeat (first | apply Kd.S_alloc | apply Kd.S_drewN | apply Kd.S_drew)); exact HO_3.out, eI HB⟩)
  ·rw [if_neg c3] at H
   exact absurd H (by simp)
 ·rw [if_neg c2] at H
  exact absurd H (by simp)
/-! ### impl_within: function 104 -/
def impl_within.f (a0 : Int) (a1 : Int) (a2 : Int) : Option (Bool) := if a0 ≥ a1 then (some (decide (a0 ≤ a2))) else (some false)
set_option maxHeartbeats 8000000 in
set_option maxRecDepth 100000 in
theorem impl_within.calls (a0 : Int) (a1 : Int) (a2 : Int) (r : Bool) (w : World) (h : impl_within.f a0 a1 a2 = some r) :
  Calls Tryd.prog 104 #[.int .i64 a0, .int .i64 a1, .int .i64 a2] w fun e w' => e = .returned (.bool r) ∧ Drawn0 w w' := by
 (unfold impl_within.f at h); (have H := h); clear h; (by_cases c4 : a0 ≥ a1); (· (rw [if_pos c4] at H); (have c4b0 : decide (a1 ≤ a0) = true := decide_eq_true c4); clear c4; (obtain rfl := Option.some.inj H); (go_enter Tryd.func104, Tryd.ntmps104); (go_wp2); go_ret; (exact ⟨by first | rfl | (simp; done) | (simp [*]; done), by repeat (first | exact Drawn0.refl _ | apply Drawn0.step)⟩)); (· (rw [if_neg c4] at H); (have c4b0 : decide (a1 ≤ a0) = false := decide_eq_false c4); clear c4; (obtain rfl := Option.some.inj H); (go_enter Tryd.func104, Tryd.ntmps104); (go_wp2); go_ret; (exact ⟨by first | rfl | (simp; done) | (simp [*]; done), by repeat (first | exact Drawn0.refl _ | apply Drawn0.step)⟩))
/-! ### impl_isName: function 103 -/
def impl_isName.l0 : Nat → ByteArray → Int → Int → Option (Bool)
 | 0, _, _, _ => none
 | k + 1, x0, x7, x8 => if x8 < x7 then (if 0 ≤ x8 then (if x8 < (x0.size : Int) then (if (bt x0 x8) ≥ 97 then (if (bt x0 x8) ≥ 48 then (if ((bt x0 x8) ≤ 122) then (impl_isName.l0 k x0 x7 (wrap64 (x8 + 1))) else (if x8 = 0 then (some false) else (if ((bt x0 x8) ≤ 57) then (impl_isName.l0 k x0 x7 (wrap64 (x8 + 1))) else (some false)))) else (if ((bt x0 x8) ≤ 122) then (impl_isName.l0 k x0 x7 (wrap64 (x8 + 1))) else (if x8 = 0 then (some false) else (some false)))) else (if (bt x0 x8) ≥ 48 then (if x8 = 0 then (some false) else (if ((bt x0 x8) ≤ 57) then (impl_isName.l0 k x0 x7 (wrap64 (x8 + 1))) else (some false))) else (if x8 = 0 then (some false) else (some false)))) else (none)) else (none)) else ((impl_within.f (x0.size : Int) 1 8).bind fun t101 => (some t101))
def impl_isName.f (k : Nat) (a0 : ByteArray) : Option (Bool) := impl_isName.l0 k a0 (a0.size : Int) 0
set_option maxHeartbeats 8000000 in
set_option maxRecDepth 100000 in
theorem impl_isName.calls (k : Nat) (a0 : ByteArray) (r : Bool) (w : World) (h : impl_isName.f k a0 = some r) :
  Calls Tryd.prog 103 #[.string a0] w fun e w' => e = .returned (.bool r) ∧ Drawn0 w w' := by
 (unfold impl_isName.f at h); (have H := h); clear h; (have H' := Aside0.mk H); clear H; (go_enter Tryd.func103, Tryd.ntmps103); (go_wp2); (go_loopg [8] k (fun kq v8 w' => ∃ (x8_1 : Int), v8 = .int .i64 x8_1 ∧ Aside0 (impl_isName.l0 kq a0 (a0.size : Int) x8_1 = some r) ∧ Aside0 (kq ≤ k) ∧ Drawn0 w w'))
 case atStart => exact ⟨(0), (by first | rfl | (simp; done) | (simp [*]; done)), H', ⟨Nat.le_refl _⟩, by repeat (first | exact Drawn0.refl _ | apply Drawn0.step)⟩
 case round =>
  (clear H'); (try clear c1); (obtain ⟨x8_1, rfl, HA, HK1, ⟨m1, rfl⟩⟩ := hrel)
  cases gk with
  | zero => exact absurd HA.out (by simp [impl_isName.l0])
  | succ k1 =>
   (have H := HA.out); clear HA; (simp only [impl_isName.l0] at H); (by_cases c2 : x8_1 < (a0.size : Int))
   ·rw [if_pos c2] at H
    (have c2b0 := decide_eq_true c2); clear c2; (by_cases c3 : 0 ≤ x8_1)
    ·rw [if_pos c3] at H
     (have c3b0 := decide_eq_true c3); clear c3; (by_cases c4 : x8_1 < (a0.size : Int))
     ·rw [if_pos c4] at H
      (have c4b0 := decide_eq_true c4); clear c4; (by_cases c6 : (bt a0 x8_1) ≥ 97)
      ·rw [if_pos c6] at H
       (have c6b0 : decide (97 ≤ (bt a0 x8_1)) = true := decide_eq_true c6); clear c6; (by_cases c9 : (bt a0 x8_1) ≥ 48)
       ·rw [if_pos c9] at H
        (have c9b0 : decide (48 ≤ (bt a0 x8_1)) = true := decide_eq_true c9); clear c9; (by_cases c11 : ((bt a0 x8_1) ≤ 122))
        ·rw [if_pos c11] at H
         (have c11b0 : decide ((bt a0 x8_1) ≤ 122) = true := decide_eq_true c11); clear c11; (have H' := Aside0.mk H); clear H; (have p5 : 0 ≤ (x8_1 : Int) := odt); (have q5 : x8_1 < (a0.size : Int) := odt); (have hx5 := bt_at a0 x8_1); (replace p5 := eq_true p5); (replace q5 := eq_true q5); (have p7 : 0 ≤ (x8_1 : Int) := odt); (have q7 : x8_1 < (a0.size : Int) := odt); (have hx7 := bt_at a0 x8_1); (replace p7 := eq_true p7); (replace q7 := eq_true q7); (have p8 : 0 ≤ (x8_1 : Int) := odt); (have q8 : x8_1 < (a0.size : Int) := odt); (have hx8 := bt_at a0 x8_1); (replace p8 := eq_true p8); (replace q8 := eq_true q8); (have p10 : 0 ≤ (x8_1 : Int) := odt); (have q10 : x8_1 < (a0.size : Int) := odt); (have hx10 := bt_at a0 x8_1); (replace p10 := eq_true p10); (replace q10 := eq_true q10); (go_wp2); go_roundg k1
         case measure => have := HK1.out; omega
         case rel => exact ⟨(wrap64 (x8_1 + 1)), (by first | rfl | (simp; done) | (simp [*]; done)), H', ⟨by have := HK1.out; omega⟩, by repeat (first | exact Drawn0.refl _ | apply Drawn0.step)⟩
        ·rw [if_neg c11] at H
         (have c11b0 : decide ((bt a0 x8_1) ≤ 122) = false := decide_eq_false c11); clear c11; (by_cases c12 : x8_1 = 0)
         ·rw [if_pos c12] at H
          (have c12b0 : (x8_1 == 0) = true := beq_iff_eq.mpr c12); (have c12b1 : (x8_1 != 0) = false := bne_eq_false_iff_eq.mpr c12); clear c12; (obtain rfl := Option.some.inj H); (have p5 : 0 ≤ (x8_1 : Int) := odt); (have q5 : x8_1 < (a0.size : Int) := odt); (have hx5 := bt_at a0 x8_1); (replace p5 := eq_true p5); (replace q5 := eq_true q5); (have p7 : 0 ≤ (x8_1 : Int) := odt); (have q7 : x8_1 < (a0.size : Int) := odt); (have hx7 := bt_at a0 x8_1); (replace p7 := eq_true p7); (replace q7 := eq_true q7); (have p8 : 0 ≤ (x8_1 : Int) := odt); (have q8 : x8_1 < (a0.size : Int) := odt); (have hx8 := bt_at a0 x8_1); (replace p8 := eq_true p8); (replace q8 := eq_true q8); (have p10 : 0 ≤ (x8_1 : Int) := odt); (have q10 : x8_1 < (a0.size : Int) := odt); (have hx10 := bt_at a0 x8_1); (replace p10 := eq_true p10); (replace q10 := eq_true q10); (go_wp2); go_ret; (exact ⟨by first | rfl | (simp; done) | (simp [*]; done), by repeat (first | exact Drawn0.refl _ | apply Drawn0.step)⟩)
         ·rw [if_neg c12] at H
          (have c12b0 : (x8_1 == 0) = false := beq_eq_false_iff_ne.mpr c12); (have c12b1 : (x8_1 != 0) = true := bne_iff_ne.mpr c12); (by_cases c13 : ((bt a0 x8_1) ≤ 57))
          ·rw [if_pos c13] at H
           (have c13b0 : decide ((bt a0 x8_1) ≤ 57) = true := decide_eq_true c13); clear c13; (have H' := Aside0.mk H); clear H; (have p5 : 0 ≤ (x8_1 : Int) := odt); (have q5 : x8_1 < (a0.size : Int) := odt); (have hx5 := bt_at a0 x8_1); (replace p5 := eq_true p5); (replace q5 := eq_true q5); (have p7 : 0 ≤ (x8_1 : Int) := odt); (have q7 : x8_1 < (a0.size : Int) := odt); (have hx7 := bt_at a0 x8_1); (replace p7 := eq_true p7); (replace q7 := eq_true q7); (have p8 : 0 ≤ (x8_1 : Int) := odt); (have q8 : x8_1 < (a0.size : Int) := odt); (have hx8 := bt_at a0 x8_1); (replace p8 := eq_true p8); (replace q8 := eq_true q8); (have p10 : 0 ≤ (x8_1 : Int) := odt); (have q10 : x8_1 < (a0.size : Int) := odt); (have hx10 := bt_at a0 x8_1); (replace p10 := eq_true p10); (replace q10 := eq_true q10); (go_wp2); go_roundg k1
           case measure => have := HK1.out; omega
           case rel => exact ⟨(wrap64 (x8_1 + 1)), (by first | rfl | (simp; done) | (simp [*]; done)), H', ⟨by have := HK1.out; omega⟩, by repeat (first | exact Drawn0.refl _ | apply Drawn0.step)⟩
          ·rw [if_neg c13] at H
           (have c13b0 : decide ((bt a0 x8_1) ≤ 57) = false := decide_eq_false c13); clear c13; (obtain rfl := Option.some.inj H); (have p5 : 0 ≤ (x8_1 : Int) := odt); (have q5 : x8_1 < (a0.size : Int) := odt); (have hx5 := bt_at a0 x8_1); (replace p5 := eq_true p5); (replace q5 := eq_true q5); (have p7 : 0 ≤ (x8_1 : Int) := odt); (have q7 : x8_1 < (a0.size : Int) := odt); (have hx7 := bt_at a0 x8_1); (replace p7 := eq_true p7); (replace q7 := eq_true q7); (have p8 : 0 ≤ (x8_1 : Int) := odt); (have q8 : x8_1 < (a0.size : Int) := odt); (have hx8 := bt_at a0 x8_1); (replace p8 := eq_true p8); (replace q8 := eq_true q8); (have p10 : 0 ≤ (x8_1 : Int) := odt); (have q10 : x8_1 < (a0.size : Int) := odt); (have hx10 := bt_at a0 x8_1); (replace p10 := eq_true p10); (replace q10 := eq_true q10); (go_wp2); go_ret; (exact ⟨by first | rfl | (simp; done) | (simp [*]; done), by repeat (first | exact Drawn0.refl _ | apply Drawn0.step)⟩)
       ·rw [if_neg c9] at H
        (have c9b0 : decide (48 ≤ (bt a0 x8_1)) = false := decide_eq_false c9); clear c9; (by_cases c14 : ((bt a0 x8_1) ≤ 122))
        ·rw [if_pos c14] at H
         (have c14b0 : decide ((bt a0 x8_1) ≤ 122) = true := decide_eq_true c14); clear c14; (have H' := Aside0.mk H); clear H; (have p5 : 0 ≤ (x8_1 : Int) := odt); (have q5 : x8_1 < (a0.size : Int) := odt); (have hx5 := bt_at a0 x8_1); (replace p5 := eq_true p5); (replace q5 := eq_true q5); (have p7 : 0 ≤ (x8_1 : Int) := odt); (have q7 : x8_1 < (a0.size : Int) := odt); (have hx7 := bt_at a0 x8_1); (replace p7 := eq_true p7); (replace q7 := eq_true q7); (have p8 : 0 ≤ (x8_1 : Int) := odt); (have q8 : x8_1 < (a0.size : Int) := odt); (have hx8 := bt_at a0 x8_1); (replace p8 := eq_true p8); (replace q8 := eq_true q8); (go_wp2); go_roundg k1
         case measure => have := HK1.out; omega
         case rel => exact ⟨(wrap64 (x8_1 + 1)), (by first | rfl | (simp; done) | (simp [*]; done)), H', ⟨by have := HK1.out; omega⟩, by repeat (first | exact Drawn0.refl _ | apply Drawn0.step)⟩
        ·rw [if_neg c14] at H
         (have c14b0 : decide ((bt a0 x8_1) ≤ 122) = false := decide_eq_false c14); clear c14; (by_cases c15 : x8_1 = 0)
         ·rw [if_pos c15] at H
          (have c15b0 : (x8_1 == 0) = true := beq_iff_eq.mpr c15); (have c15b1 : (x8_1 != 0) = false := bne_eq_false_iff_eq.mpr c15); clear c15; (obtain rfl := Option.some.inj H); (have p5 : 0 ≤ (x8_1 : Int) := odt); (have q5 : x8_1 < (a0.size : Int) := odt); (have hx5 := bt_at a0 x8_1); (replace p5 := eq_true p5); (replace q5 := eq_true q5); (have p7 : 0 ≤ (x8_1 : Int) := odt); (have q7 : x8_1 < (a0.size : Int) := odt); (have hx7 := bt_at a0 x8_1); (replace p7 := eq_true p7); (replace q7 := eq_true q7); (have p8 : 0 ≤ (x8_1 : Int) := odt); (have q8 : x8_1 < (a0.size : Int) := odt); (have hx8 := bt_at a0 x8_1); (replace p8 := eq_true p8); (replace q8 := eq_true q8); (go_wp2); go_ret; (exact ⟨by first | rfl | (simp; done) | (simp [*]; done), by repeat (first | exact Drawn0.refl _ | apply Drawn0.step)⟩)
         ·rw [if_neg c15] at H
          (have c15b0 : (x8_1 == 0) = false := beq_eq_false_iff_ne.mpr c15); (have c15b1 : (x8_1 != 0) = true := bne_iff_ne.mpr c15); (obtain rfl := Option.some.inj H); (have p5 : 0 ≤ (x8_1 : Int) := odt); (have q5 : x8_1 < (a0.size : Int) := odt); (have hx5 := bt_at a0 x8_1); (replace p5 := eq_true p5); (replace q5 := eq_true q5); (have p7 : 0 ≤ (x8_1 : Int) := odt); (have q7 : x8_1 < (a0.size : Int) := odt); (have hx7 := bt_at a0 x8_1); (replace p7 := eq_true p7); (replace q7 := eq_true q7); (have p8 : 0 ≤ (x8_1 : Int) := odt); (have q8 : x8_1 < (a0.size : Int) := odt); (have hx8 := bt_at a0 x8_1); (replace p8 := eq_true p8); (replace q8 := eq_true q8); (go_wp2); go_ret; (exact ⟨by first | rfl | (simp; done) | (simp [*]; done), by repeat (first | exact Drawn0.refl _ | apply Drawn0.step)⟩)
      ·rw [if_neg c6] at H
       (have c6b0 : decide (97 ≤ (bt a0 x8_1)) = false := decide_eq_false c6); clear c6; (by_cases c17 : (bt a0 x8_1) ≥ 48)
       ·rw [if_pos c17] at H
        (have c17b0 : decide (48 ≤ (bt a0 x8_1)) = true := decide_eq_true c17); clear c17; (by_cases c19 : x8_1 = 0)
        ·rw [if_pos c19] at H
         (have c19b0 : (x8_1 == 0) = true := beq_iff_eq.mpr c19); (have c19b1 : (x8_1 != 0) = false := bne_eq_false_iff_eq.mpr c19); clear c19; (obtain rfl := Option.some.inj H); (have p5 : 0 ≤ (x8_1 : Int) := odt); (have q5 : x8_1 < (a0.size : Int) := odt); (have hx5 := bt_at a0 x8_1); (replace p5 := eq_true p5); (replace q5 := eq_true q5); (have p16 : 0 ≤ (x8_1 : Int) := odt); (have q16 : x8_1 < (a0.size : Int) := odt); (have hx16 := bt_at a0 x8_1); (replace p16 := eq_true p16); (replace q16 := eq_true q16); (have p18 : 0 ≤ (x8_1 : Int) := odt); (have q18 : x8_1 < (a0.size : Int) := odt); (have hx18 := bt_at a0 x8_1); (replace p18 := eq_true p18); (replace q18 := eq_true q18); (go_wp2); go_ret; (exact ⟨by first | rfl | (simp; done) | (simp [*]; done), by repeat (first | exact Drawn0.refl _ | apply Drawn0.step)⟩)
        ·rw [if_neg c19] at H
         (have c19b0 : (x8_1 == 0) = false := beq_eq_false_iff_ne.mpr c19); (have c19b1 : (x8_1 != 0) = true := bne_iff_ne.mpr c19); (by_cases c20 : ((bt a0 x8_1) ≤ 57))
         ·rw [if_pos c20] at H
          (have c20b0 : decide ((bt a0 x8_1) ≤ 57) = true := decide_eq_true c20); clear c20; (have H' := Aside0.mk H); clear H; (have p5 : 0 ≤ (x8_1 : Int) := odt); (have q5 : x8_1 < (a0.size : Int) := odt); (have hx5 := bt_at a0 x8_1); (replace p5 := eq_true p5); (replace q5 := eq_true q5); (have p16 : 0 ≤ (x8_1 : Int) := odt); (have q16 : x8_1 < (a0.size : Int) := odt); (have hx16 := bt_at a0 x8_1); (replace p16 := eq_true p16); (replace q16 := eq_true q16); (have p18 : 0 ≤ (x8_1 : Int) := odt); (have q18 : x8_1 < (a0.size : Int) := odt); (have hx18 := bt_at a0 x8_1); (replace p18 := eq_true p18); (replace q18 := eq_true q18); (go_wp2); go_roundg k1
          case measure => have := HK1.out; omega
          case rel => exact ⟨(wrap64 (x8_1 + 1)), (by first | rfl | (simp; done) | (simp [*]; done)), H', ⟨by have := HK1.out; omega⟩, by repeat (first | exact Drawn0.refl _ | apply Drawn0.step)⟩
         ·rw [if_neg c20] at H
          (have c20b0 : decide ((bt a0 x8_1) ≤ 57) = false := decide_eq_false c20); clear c20; (obtain rfl := Option.some.inj H); (have p5 : 0 ≤ (x8_1 : Int) := odt); (have q5 : x8_1 < (a0.size : Int) := odt); (have hx5 := bt_at a0 x8_1); (replace p5 := eq_true p5); (replace q5 := eq_true q5); (have p16 : 0 ≤ (x8_1 : Int) := odt); (have q16 : x8_1 < (a0.size : Int) := odt); (have hx16 := bt_at a0 x8_1); (replace p16 := eq_true p16); (replace q16 := eq_true q16); (have p18 : 0 ≤ (x8_1 : Int) := odt); (have q18 : x8_1 < (a0.size : Int) := odt); (have hx18 := bt_at a0 x8_1); (replace p18 := eq_true p18); (replace q18 := eq_true q18); (go_wp2); go_ret; (exact ⟨by first | rfl | (simp; done) | (simp [*]; done), by repeat (first | exact Drawn0.refl _ | apply Drawn0.step)⟩)
       ·rw [if_neg c17] at H
        (have c17b0 : decide (48 ≤ (bt a0 x8_1)) = false := decide_eq_false c17); clear c17; (by_cases c21 : x8_1 = 0)
        ·rw [if_pos c21] at H
         (have c21b0 : (x8_1 == 0) = true := beq_iff_eq.mpr c21); (have c21b1 : (x8_1 != 0) = false := bne_eq_false_iff_eq.mpr c21); clear c21; (obtain rfl := Option.some.inj H); (have p5 : 0 ≤ (x8_1 : Int) := odt); (have q5 : x8_1 < (a0.size : Int) := odt); (have hx5 := bt_at a0 x8_1); (replace p5 := eq_true p5); (replace q5 := eq_true q5); (have p16 : 0 ≤ (x8_1 : Int) := odt); (have q16 : x8_1 < (a0.size : Int) := odt); (have hx16 := bt_at a0 x8_1); (replace p16 := eq_true p16); (replace q16 := eq_true q16); (go_wp2); go_ret; (exact ⟨by first | rfl | (simp; done) | (simp [*]; done), by repeat (first | exact Drawn0.refl _ | apply Drawn0.step)⟩)
        ·rw [if_neg c21] at H
         (have c21b0 : (x8_1 == 0) = false := beq_eq_false_iff_ne.mpr c21); (have c21b1 : (x8_1 != 0) = true := bne_iff_ne.mpr c21); (obtain rfl := Option.some.inj H); (have p5 : 0 ≤ (x8_1 : Int) := odt); (have q5 : x8_1 < (a0.size : Int) := odt); (have hx5 := bt_at a0 x8_1); (replace p5 := eq_true p5); (replace q5 := eq_true q5); (have p16 : 0 ≤ (x8_1 : Int) := odt); (have q16 : x8_1 < (a0.size : Int) := odt); (have hx16 := bt_at a0 x8_1); (replace p16 := eq_true p16); (replace q16 := eq_true q16); (go_wp2); go_ret; (exact ⟨by first | rfl | (simp; done) | (simp [*]; done), by repeat (first | exact Drawn0.refl _ | apply Drawn0.step)⟩)
     ·rw [if_neg c4] at H
      exact absurd H (by simp)
    ·rw [if_neg c3] at H
     exact absurd H (by simp)
   ·rw [if_neg c2] at H
    (have c2b0 := decide_eq_false c2); clear c2; (replace H := obS H); (obtain ⟨t101, A22, H⟩ := H); (obtain rfl := Option.some.inj H); (go_wp2_with (first | ((with_reducible refine gate_callee (f := 104) rfl ?_); refine gL (some 44) Tryd.func104 #[.int .i64 (a0.size : Int), .int .i64 1, .int .i64 8] ?_; (with_reducible refine (impl_within.calls (a0.size : Int) 1 8 t101 _ A22.out).mono ?_); rintro e w' ⟨rfl, ⟨nd, rfl⟩⟩; refine ⟨_, rfl, ?_⟩))); go_ret; (exact ⟨by first | rfl | (simp; done) | (simp [*]; done), by repeat (first | exact Drawn0.refl _ | apply Drawn0.step)⟩)
/-! ### slices_Index_string_string: function 84 -/
def slices_Index_string_string.l0 : Nat → List ByteArray → ByteArray → Int → Int → Option (Int)
 | 0, _, _, _, _ => none
 | k + 1, x0, x1, x7, x8 => if x8 < x7 then (if 0 ≤ x8 then (if x8 < (x0.length : Int) then (if x1.toList = (rdOf ByteArray.empty x0 x8).toList then (some x8) else (slices_Index_string_string.l0 k x0 x1 x7 (wrap64 (x8 + 1)))) else (none)) else (none)) else (some (-1))
def slices_Index_string_string.f (k : Nat) (l0 : List ByteArray) (a1 : ByteArray) : Option (Int) := slices_Index_string_string.l0 k l0 a1 (l0.length : Int) 0
set_option maxHeartbeats 8000000 in
set_option maxRecDepth 100000 in
theorem slices_Index_string_string.calls (k : Nat) (A0 : Option Addr) (c0 : Nat) (l0 : List ByteArray) (a1 : ByteArray) (r : Int) (w : World) (hr0 : Kd.C Kd.string w A0 l0.length l0) (hc0 : l0.length ≤ c0) (h : slices_Index_string_string.f k l0 a1 = some r) :
  Calls Tryd.prog 84 #[.slice A0 l0.length c0, .string a1] w fun e w' => e = .returned (.int .i64 r) ∧ Drawn0 w w' := by
 (have HR0 := Aside0.mk hr0); (have HC0 := Aside0.mk hc0); clear hr0 hc0; (unfold slices_Index_string_string.f at h); (have H := h); clear h; (have H' := Aside0.mk H); clear H; (go_enter Tryd.func84, Tryd.ntmps84); (go_wp2); (go_loopg [8] k (fun kq v8 w' => ∃ (x8_1 : Int), v8 = .int .i64 x8_1 ∧ Aside0 (slices_Index_string_string.l0 kq l0 a1 (l0.length : Int) x8_1 = some r) ∧ Aside0 (kq ≤ k) ∧ Drawn0 w w'))
 case atStart => exact ⟨(0), (by first | rfl | (simp; done) | (simp [*]; done)), H', ⟨Nat.le_refl _⟩, by repeat (first | exact Drawn0.refl _ | apply Drawn0.step)⟩
 case round =>
  (clear H'); (try clear p2); (obtain ⟨x8_1, rfl, HA, HK1, ⟨m1, rfl⟩⟩ := hrel)
  cases gk with
  | zero => exact absurd HA.out (by simp [slices_Index_string_string.l0])
  | succ k1 =>
   (have H := HA.out); clear HA; (simp only [slices_Index_string_string.l0] at H); (by_cases c3 : x8_1 < (l0.length : Int))
   ·rw [if_pos c3] at H
    (have c3b0 := decide_eq_true c3); clear c3; (by_cases c4 : 0 ≤ x8_1)
    ·rw [if_pos c4] at H
     (have c4b0 := decide_eq_true c4); clear c4; (by_cases c5 : x8_1 < (l0.length : Int))
     ·rw [if_pos c5] at H
      (have c5b0 := decide_eq_true c5); clear c5; (by_cases c6 : a1.toList = (rdOf ByteArray.empty l0 x8_1).toList)
      ·rw [if_pos c6] at H
       (have c6b0 : (a1.toList == (rdOf ByteArray.empty l0 x8_1).toList) = true := beq_iff_eq.mpr c6); (have c6b1 : (a1.toList != (rdOf ByteArray.empty l0 x8_1).toList) = false := bne_eq_false_iff_eq.mpr c6); clear c6; (obtain rfl := Option.some.inj H); (have p101 : 0 ≤ (x8_1 : Int) := odt); (have q101 : x8_1 < (l0.length : Int) := odt); (obtain ⟨ad101, e101, hx101_0⟩ := Kd.at_string HR0.out x8_1 p101 q101); (cases e101); (replace p101 := eq_true p101); (replace q101 := eq_true q101); (go_wp2); go_ret; (exact ⟨by first | rfl | (simp; done) | (simp [*]; done), by repeat (first | exact Drawn0.refl _ | apply Drawn0.step)⟩)
      ·rw [if_neg c6] at H
       (have c6b0 : (a1.toList == (rdOf ByteArray.empty l0 x8_1).toList) = false := beq_eq_false_iff_ne.mpr c6); (have c6b1 : (a1.toList != (rdOf ByteArray.empty l0 x8_1).toList) = true := bne_iff_ne.mpr c6); (have H' := Aside0.mk H); clear H; (have p101 : 0 ≤ (x8_1 : Int) := odt); (have q101 : x8_1 < (l0.length : Int) := odt); (obtain ⟨ad101, e101, hx101_0⟩ := Kd.at_string HR0.out x8_1 p101 q101); (cases e101); (replace p101 := eq_true p101); (replace q101 := eq_true q101); (go_wp2); go_roundg k1
       case measure => have := HK1.out; omega
       case rel => exact ⟨(wrap64 (x8_1 + 1)), (by first | rfl | (simp; done) | (simp [*]; done)), H', ⟨by have := HK1.out; omega⟩, by repeat (first | exact Drawn0.refl _ | apply Drawn0.step)⟩
     ·rw [if_neg c5] at H
      exact absurd H (by simp)
    ·rw [if_neg c4] at H
     exact absurd H (by simp)
   ·rw [if_neg c3] at H
    (have c3b0 := decide_eq_false c3); clear c3; (obtain rfl := Option.some.inj H); (go_wp2); go_ret; (exact ⟨by first | rfl | (simp; done) | (simp [*]; done), by repeat (first | exact Drawn0.refl _ | apply Drawn0.step)⟩)
/-! ### slices_Contains_string_string: function 47 -/
def slices_Contains_string_string.f (k : Nat) (l0 : List ByteArray) (a1 : ByteArray) : Option (Bool) := (slices_Index_string_string.f k l0 a1).bind fun t101 => (some (decide (t101 ≥ 0)))
set_option maxHeartbeats 8000000 in
set_option maxRecDepth 100000 in
theorem slices_Contains_string_string.calls (k : Nat) (A0 : Option Addr) (c0 : Nat) (l0 : List ByteArray) (a1 : ByteArray) (r : Bool) (w : World) (hr0 : Kd.C Kd.string w A0 l0.length l0) (hc0 : l0.length ≤ c0) (h : slices_Contains_string_string.f k l0 a1 = some r) :
  Calls Tryd.prog 47 #[.slice A0 l0.length c0, .string a1] w fun e w' => e = .returned (.bool r) ∧ Drawn0 w w' := by
 (have HR0 := Aside0.mk hr0); (have HC0 := Aside0.mk hc0); clear hr0 hc0; (unfold slices_Contains_string_string.f at h); (have H := h); clear h; (replace H := obS H); (obtain ⟨t101, A3, H⟩ := H); (obtain rfl := Option.some.inj H); (go_enter Tryd.func47, Tryd.ntmps47); (go_wp2_with (first | ((with_reducible refine gate_callee (f := 84) rfl ?_); refine gL (some 7) Tryd.func84 #[.slice A0 l0.length c0, .string a1] ?_; (with_reducible refine (slices_Index_string_string.calls k _ _ l0 a1 t101 _ ?side1 ?side2 A3.out).mono ?_); (case side1 => exact cI HR0.out); (case side2 => exact HC0.out); rintro e w' ⟨rfl, ⟨nd, rfl⟩⟩; refine ⟨_, rfl, ?_⟩))); go_ret; (exact ⟨by first | rfl | (simp; done) | (simp [*]; done), by repeat (first | exact Drawn0.refl _ | apply Drawn0.step)⟩)

end Go.Proofs.YtdogpphfofimeaaDoor.X
set_option linter.unusedVariables false
set_option linter.unusedSimpArgs false
namespace Go.Proofs.YtdogpphfofimeaaDoor.E
open Go.RowKit Go.Proofs.YtdogpphfofimeaaDoorW.PrintWords
variable {α β S R : Type}

theorem ev_cast {g : Nat → Option α} {r r' : α} (h : Ev g r) (e : r = r') : Ev g r' := e ▸ h
theorem ev_pos {c : Prop} [Decidable c] (h : c) {f g : Nat → Option α} {r : α} (k : Ev f r) : Ev (fun k => if c then f k else g k) r := Ev.congr (fun _ => if_pos h) k
theorem ev_neg {c : Prop} [Decidable c] (h : ¬ c) {f g : Nat → Option α} {r : α} (k : Ev g r) : Ev (fun k => if c then f k else g k) r := Ev.congr (fun _ => if_neg h) k
theorem ev_ite {c : Prop} [Decidable c] {f g : Nat → Option α} {r : α} (h1 : c → Ev f r) (h2 : ¬ c → Ev g r) : Ev (fun k => if c then f k else g k) r := by
  by_cases h : c
  · exact ev_pos h (h1 h)
  · exact ev_neg h (h2 h)
theorem ev_now {r r' : α} (e : r = r') : Ev (fun _ => some r) r' := e ▸ Ev.now r
theorem ev_bind0 {o : Option α} {a : α} (h : o = some a) {f : Nat → α → Option β} {r : β} (k : Ev (fun n => f n a) r) : Ev (fun n => o.bind (f n)) r := by subst h; exact k
theorem ev_some {a : α} {f : Nat → α → Option β} {r : β} (k : Ev (fun n => f n a) r) : Ev (fun n => (some a).bind (f n)) r := k
theorem ev_of {o : Option α} {r : α} (h : o = some r) : Ev (fun _ => o) r := h ▸ Ev.now r
/-- With rounds: what a printed function's '.f' tells for ever, told of a number of rounds. -/
theorem ev_get {g : Nat → Option α} {r : α} (h : Ev g r) : ∃ k, g k = some r := Ev.rounds h
theorem wrap_id {x : Int} (h0 : -9223372036854775808 ≤ x) (h1 : x ≤ 9223372036854775807) : wrap64 x = x := IntWalk.wrap64_in x ⟨h0, h1⟩
theorem wrap_succ {i n : Nat} (h : i < n) (hn : n ≤ 9223372036854775807) : wrap64 ((i : Int) + 1) = ((i + 1 : Nat) : Int) := by rw [wrap_id] <;> omega
theorem drop_cons {xs : List α} {i : Nat} {x : α} {r : List α} (h : xs.drop i = x :: r) (d : α) : xs.getD i d = x ∧ i < xs.length ∧ xs.drop (i + 1) = r ∧ xs[i]? = some x := by
  have hi : i < xs.length := by
    rcases Nat.lt_or_ge i xs.length with h' | h'
    · exact h'
    · rw [List.drop_eq_nil_of_le h'] at h; cases h
  have h2 := List.drop_eq_getElem_cons hi
  rw [h] at h2
  injection h2 with h3 h4
  exact ⟨by rw [List.getD_eq_getElem?_getD, List.getElem?_eq_getElem hi, Option.getD_some, h3], hi, h4.symm, by rw [List.getElem?_eq_getElem hi, h3]⟩

/-- A loop over a list by an index, with a state: what it answers is a recursion over what is left. -/
theorem ev_scan {L : Nat → S → Int → Option R} {G : S → Nat → List α → R} (I : S → Nat → List α → Prop) (xs : List α)
    (hend : ∀ s, I s xs.length [] → Ev (fun k => L k s xs.length) (G s xs.length []))
    (hstep : ∀ s (i : Nat) x r, I s i (x :: r) → i < xs.length → xs.drop i = x :: r → (∀ d, xs.getD i d = x) →
      (∀ s', I s' (i + 1) r → Ev (fun k => L k s' ((i + 1 : Nat) : Int)) (G s' (i + 1) r)) → Ev (fun k => L k s i) (G s i (x :: r))) :
    ∀ (n i : Nat) s, n = xs.length - i → i ≤ xs.length → I s i (xs.drop i) → Ev (fun k => L k s i) (G s i (xs.drop i)) := by
  intro n
  induction n with
  | zero =>
    intro i s hn hi hI
    obtain rfl : i = xs.length := by omega
    rw [List.drop_length] at hI ⊢
    exact hend s hI
  | succ n ih =>
    intro i s hn hi hI
    have hlt : i < xs.length := by omega
    obtain ⟨x, r, hd⟩ : ∃ x r, xs.drop i = x :: r := ⟨_, _, List.drop_eq_getElem_cons hlt⟩
    have hc := fun d => drop_cons hd d
    rw [hd] at hI ⊢
    refine hstep s i x r hI hlt hd (fun d => (hc d).1) (fun s' hI' => ?_)
    have := ih (i + 1) s' (by omega) (by omega)
    rw [(hc x).2.2.1] at this
    exact this hI'
theorem ev_scan0 {L : Nat → S → Int → Option R} {G : S → Nat → List α → R} (I : S → Nat → List α → Prop) (xs : List α) (s : S) (h0 : I s 0 xs)
    (hend : ∀ s, I s xs.length [] → Ev (fun k => L k s xs.length) (G s xs.length []))
    (hstep : ∀ s (i : Nat) x r, I s i (x :: r) → i < xs.length → xs.drop i = x :: r → (∀ d, xs.getD i d = x) →
      (∀ s', I s' (i + 1) r → Ev (fun k => L k s' ((i + 1 : Nat) : Int)) (G s' (i + 1) r)) → Ev (fun k => L k s i) (G s i (x :: r))) :
    Ev (fun k => L k s 0) (G s 0 xs) := ev_scan I xs hend hstep xs.length 0 s (by omega) (by omega) h0
/-- The same without a state. -/
theorem ev_walk {L : Nat → Int → Option R} {G : Nat → List α → R} (xs : List α)
    (hend : Ev (fun k => L k xs.length) (G xs.length []))
    (hstep : ∀ (i : Nat) x r, i < xs.length → xs.drop i = x :: r → (∀ d, xs.getD i d = x) →
      Ev (fun k => L k ((i + 1 : Nat) : Int)) (G (i + 1) r) → Ev (fun k => L k i) (G i (x :: r))) :
    Ev (fun k => L k 0) (G 0 xs) :=
  ev_scan0 (L := fun k (_ : Unit) i => L k i) (G := fun _ i r => G i r) (fun _ _ _ => True) xs () trivial (fun _ _ => hend) (fun _ i x r _ h1 h2 h3 h4 => hstep i x r h1 h2 h3 (h4 () trivial))

/-- A loop that fills a made list element by element. -/
theorem ev_fill {L : Nat → List β → Int → Option (List β)} (xs : List α) (conv : α → β) (z : β)
    (hend : ∀ out, Ev (fun k => L k out xs.length) out)
    (hstep : ∀ out (i : Nat) x y, i < xs.length → xs[i]? = some x → (∀ d, xs.getD i d = x) → out.length = xs.length → Ev (fun k => L k (out.set i (conv x)) ((i + 1 : Nat) : Int)) y → Ev (fun k => L k out i) y) :
    Ev (fun k => L k (List.replicate xs.length z) 0) (xs.map conv) := by
  have main : ∀ (n i : Nat) (out : List β), n = xs.length - i → i ≤ xs.length → out.length = xs.length → Ev (fun k => L k out i) (out.take i ++ (xs.drop i).map conv) := by
    intro n
    induction n with
    | zero =>
      intro i out hn hi hl
      obtain rfl : i = xs.length := by omega
      rw [List.drop_length, List.map_nil, List.append_nil, List.take_of_length_le (by omega)]
      exact hend out
    | succ n ih =>
      intro i out hn hi hl
      have hlt : i < xs.length := by omega
      have hx : xs[i]? = some xs[i] := List.getElem?_eq_getElem hlt
      have := ih (i + 1) (out.set i (conv xs[i])) (by omega) (by omega) (by rw [List.length_set]; exact hl)
      refine hstep out i xs[i] _ hlt hx (fun d => by rw [List.getD_eq_getElem?_getD, hx, Option.getD_some]) hl (ev_cast this ?_)
      rw [List.drop_eq_getElem_cons hlt, List.map_cons, List.take_succ_eq_append_getElem (by rw [List.length_set]; omega), List.getElem_set_self, List.append_assoc, List.singleton_append, List.take_set_of_le (Nat.le_refl i)]
  have h := main xs.length 0 (List.replicate xs.length z) (by omega) (by omega) (by rw [List.length_replicate])
  simpa using h
/-- A loop that compares two lists element by element: a list with itself. -/
theorem ev_same {L : Nat → Int → Option Bool} (n : Nat) (hend : Ev (fun k => L k n) true)
    (hstep : ∀ i : Nat, i < n → Ev (fun k => L k ((i + 1 : Nat) : Int)) true → Ev (fun k => L k i) true) : Ev (fun k => L k 0) true := by
  have main : ∀ (m i : Nat), m = n - i → i ≤ n → Ev (fun k => L k i) true := by
    intro m
    induction m with
    | zero => intro i h1 h2; obtain rfl : i = n := by omega
              exact hend
    | succ m ih => intro i h1 h2; exact hstep i (by omega) (ih (i + 1) (by omega) (by omega))
  exact main n 0 (by omega) (by omega)

/-- A loop that takes the elements' weights off a number. -/
theorem ev_sz {L : Nat → Int → Int → Option Int} (xs : List α) (f : α → Nat)
    (hend : ∀ left : Int, Ev (fun k => L k left xs.length) left)
    (hstep : ∀ (left : Int) (i : Nat) x y, 0 ≤ left → left ≤ 4611686018427387904 → i < xs.length → x ∈ xs → (∀ d, xs.getD i d = x) →
      ((f x : Int) ≤ left → Ev (fun k => L k (left - (f x : Int)) ((i + 1 : Nat) : Int)) y) → (¬ (f x : Int) ≤ left → y = -1) → Ev (fun k => L k left i) y) :
    ∀ left : Int, 0 ≤ left → left ≤ 4611686018427387904 → Ev (fun k => L k left 0) (if ((xs.map f).sum : Int) ≤ left then left - ((xs.map f).sum : Int) else -1) := by
  have main : ∀ (n i : Nat) (left : Int), n = xs.length - i → i ≤ xs.length → 0 ≤ left → left ≤ 4611686018427387904 →
      Ev (fun k => L k left i) (if ((((xs.drop i).map f).sum : Nat) : Int) ≤ left then left - ((((xs.drop i).map f).sum : Nat) : Int) else -1) := by
    intro n
    induction n with
    | zero =>
      intro i left hn hi h0 h1
      obtain rfl : i = xs.length := by omega
      rw [List.drop_length, List.map_nil, List.sum_nil]
      exact ev_cast (hend left) (by rw [if_pos (by omega)]; omega)
    | succ n ih =>
      intro i left hn hi h0 h1
      have hlt : i < xs.length := by omega
      rw [List.drop_eq_getElem_cons hlt, List.map_cons, List.sum_cons]
      refine hstep left i xs[i] _ h0 h1 hlt (List.getElem_mem hlt) (fun d => by rw [List.getD_eq_getElem?_getD, List.getElem?_eq_getElem hlt, Option.getD_some]) (fun hf => ?_) (fun hf => ?_)
      · refine ev_cast (ih (i + 1) (left - (f xs[i] : Int)) (by omega) (by omega) (by omega) (by omega)) ?_
        by_cases hs : ((((xs.drop (i + 1)).map f).sum : Nat) : Int) ≤ left - (f xs[i] : Int)
        · rw [if_pos hs, if_pos (by omega)]; omega
        · rw [if_neg hs, if_neg (by omega)]
      · rw [if_neg (by omega)]
  intro left h0 h1
  exact main xs.length 0 left (by omega) (by omega) h0 h1
theorem le_sum {l : List α} {f : α → Nat} {x : α} (h : x ∈ l) : f x ≤ (l.map f).sum := by
  induction l with
  | nil => cases h
  | cons y r ih =>
    rw [List.map_cons, List.sum_cons]
    rcases List.mem_cons.1 h with rfl | h
    · omega
    · have := ih h
      omega

/-- The place of the first element with a property, counted from i on; -1 if there is none. -/
def idxG (p : α → Bool) : Nat → List α → Int
  | _, [] => -1
  | i, x :: r => if p x = true then (i : Int) else idxG p (i + 1) r
theorem idxG_spec (p : α → Bool) : ∀ (l : List α) (i : Nat), (idxG p i l = -1 ∧ ∀ x ∈ l, p x = false) ∨
    ∃ j x, j < l.length ∧ idxG p i l = ((i + j : Nat) : Int) ∧ l[j]? = some x ∧ p x = true ∧ l.find? p = some x ∧ ∀ m y, m < j → l[m]? = some y → p y = false
  | [], i => .inl ⟨rfl, by simp⟩
  | x :: r, i => by
    by_cases h : p x = true
    · exact .inr ⟨0, x, by simp, by simp [idxG, h], rfl, h, by simp [h], fun m y hm => by omega⟩
    · rcases idxG_spec p r (i + 1) with ⟨h1, h2⟩ | ⟨j, y, h1, h2, h3, h4, h5, h6⟩
      · refine .inl ⟨by simp [idxG, h, h1], fun z hz => ?_⟩
        rcases List.mem_cons.1 hz with rfl | hz
        · simpa using h
        · exact h2 z hz
      · refine .inr ⟨j + 1, y, by simp only [List.length_cons]; omega, ?_, by simpa using h3, h4, by simp [h, h5], fun m z hm hz => ?_⟩
        · rw [idxG, if_neg h, h2]; congr 1; omega
        · cases m with
          | zero => simp at hz; subst hz; simpa using h
          | succ m => exact h6 m z (by omega) (by simpa using hz)
theorem idxG_lt (p : α → Bool) (l : List α) (i : Nat) : idxG p i l < 0 ↔ l.any p = false := by
  rcases idxG_spec p l i with ⟨h1, h2⟩ | ⟨j, x, h1, h2, h3, h4, h5, h6⟩
  · rw [h1]
    refine ⟨fun _ => ?_, fun _ => by omega⟩
    rw [List.any_eq_false]; intro x hx; simp [h2 x hx]
  · rw [h2]
    refine ⟨fun h => by omega, fun h => ?_⟩
    rw [List.any_eq_false] at h
    exact absurd h4 (h x (List.mem_of_getElem? h3))
theorem idxG_here {p : α → Bool} {l : List α} {k : Nat} {x : α} (hx : l[k]? = some x) (hp : p x = true) (h : ∀ m y, m < k → l[m]? = some y → p y = false) : idxG p 0 l = (k : Int) := by
  rcases idxG_spec p l 0 with ⟨h1, h2⟩ | ⟨j, y, h1, h2, h3, h4, h5, h6⟩
  · exact absurd hp (by rw [h2 x (List.mem_of_getElem? hx)]; simp)
  · rcases Nat.lt_trichotomy j k with hj | hj | hj
    · rw [h j y hj h3] at h4; cases h4
    · subst hj; rw [h2]; simp
    · rw [h6 k x hj hx] at hp; cases hp
theorem idxG_none {p : α → Bool} {l : List α} (h : ∀ m y, m < l.length → l[m]? = some y → p y = false) : idxG p 0 l = -1 := by
  rcases idxG_spec p l 0 with ⟨h1, h2⟩ | ⟨j, y, h1, h2, h3, h4, h5, h6⟩
  · exact h1
  · rw [h j y h1 h3] at h4; cases h4
theorem idxG_nonneg (p : α → Bool) (l : List α) (i : Nat) : decide (0 ≤ idxG p i l) = l.any p := by
  have h := idxG_lt p l i
  by_cases c : l.any p = true
  · rw [c, decide_eq_true_eq]
    have : ¬ idxG p i l < 0 := fun h' => by rw [h.1 h'] at c; cases c
    omega
  · have c' : l.any p = false := by simpa using c
    rw [c', decide_eq_false_iff_not]
    have := h.2 c'
    omega

/-- A loop that asks a test at each place, with a state that is known at each place. -/
theorem ev_all {L : Nat → S → Int → Option R} (n : Nat) (St : Nat → S) (C : Nat → Bool) (F Rn : R) (hend : (∀ j, j < n → C j = true) → Ev (fun k => L k (St n) n) Rn)
    (hs : ∀ i, i < n → (∀ j, j < i → C j = true) → C i = true → ∀ y, Ev (fun k => L k (St (i + 1)) ((i + 1 : Nat) : Int)) y → Ev (fun k => L k (St i) i) y)
    (hf : ∀ i, i < n → (∀ j, j < i → C j = true) → C i = false → Ev (fun k => L k (St i) i) F) : Ev (fun k => L k (St 0) 0) (if (List.range n).all C = true then Rn else F) := by
  have main : ∀ (m i : Nat), m = n - i → i ≤ n → (∀ j, j < i → C j = true) → Ev (fun k => L k (St i) i) (if (List.range n).all C = true then Rn else F) := by
    intro m
    induction m with
    | zero =>
      intro i hm hi hC
      obtain rfl : i = n := by omega
      rw [if_pos (by rw [List.all_eq_true]; intro x hx; exact hC x (List.mem_range.1 hx))]
      exact hend hC
    | succ m ih =>
      intro i hm hi hC
      have hlt : i < n := by omega
      cases hc : C i with
      | true =>
        refine hs i hlt hC hc _ (ih (i + 1) (by omega) (by omega) (fun j hj => ?_))
        by_cases e : j = i
        · rw [e]; exact hc
        · exact hC j (by omega)
      | false =>
        rw [if_neg (by rw [List.all_eq_true]; intro h; rw [h i (List.mem_range.2 hlt)] at hc; cases hc)]
        exact hf i hlt hC hc
  exact main n 0 (by omega) (by omega) (fun j hj => by omega)
theorem ev_all0 {L : Nat → Int → Option R} (n : Nat) (C : Nat → Bool) (F Rn : R) (hend : (∀ j, j < n → C j = true) → Ev (fun k => L k n) Rn)
    (hs : ∀ i, i < n → (∀ j, j < i → C j = true) → C i = true → ∀ y, Ev (fun k => L k ((i + 1 : Nat) : Int)) y → Ev (fun k => L k i) y)
    (hf : ∀ i, i < n → (∀ j, j < i → C j = true) → C i = false → Ev (fun k => L k i) F) : Ev (fun k => L k 0) (if (List.range n).all C = true then Rn else F) :=
  ev_all (L := fun k (_ : Unit) i => L k i) n (fun _ => ()) C F Rn hend hs hf
theorem all_range {n : Nat} {C : Nat → Bool} : (List.range n).all C = true ↔ ∀ i, i < n → C i = true := by
  rw [List.all_eq_true]
  exact ⟨fun h i hi => h i (List.mem_range.2 hi), fun h i hi => h i (List.mem_range.1 hi)⟩
theorem getD_in {α : Type} {l : List α} {i : Nat} (h : i < l.length) (d : α) : l.getD i d = l[i] := by rw [List.getD_eq_getElem?_getD, List.getElem?_eq_getElem h, Option.getD_some]
theorem idxG_take (p : α → Bool) : ∀ (l : List α) (s i : Nat), idxG p s (l.take i) = if (s : Int) ≤ idxG p s l ∧ idxG p s l < ((s + i : Nat) : Int) then idxG p s l else -1
  | [], s, i => by
    rw [List.take_nil]
    by_cases h : (s : Int) ≤ idxG p s ([] : List α) ∧ idxG p s ([] : List α) < ((s + i : Nat) : Int)
    · rw [if_pos h]
    · rw [if_neg h]; rfl
  | x :: r, s, 0 => by
    have h : idxG p s ((x :: r).take 0) = -1 := rfl
    rw [h, if_neg]
    omega
  | x :: r, s, i + 1 => by
    rw [List.take_succ_cons]
    by_cases h : p x = true
    · have e1 : idxG p s (x :: r) = (s : Int) := by simp [idxG, h]
      have e2 : idxG p s (x :: r.take i) = (s : Int) := by simp [idxG, h]
      rw [e1, e2, if_pos (by omega)]
    · have e1 : idxG p s (x :: r) = idxG p (s + 1) r := by simp [idxG, h]
      have e2 : idxG p s (x :: r.take i) = idxG p (s + 1) (r.take i) := by simp [idxG, h]
      rw [e1, e2, idxG_take p r (s + 1) i]
      rcases idxG_spec p r (s + 1) with ⟨h1, _⟩ | ⟨j, y, _, h2, _⟩
      · rw [h1, if_neg (by omega), if_neg (by omega)]
      · rw [h2]
        by_cases c : j < i
        · rw [if_pos (by omega), if_pos (by omega)]
        · rw [if_neg (by omega), if_neg (by omega)]
/-- The first one is at i, where the property holds: just where there is none ahead. -/
theorem idxG_first {p : α → Bool} {l : List α} {i : Nat} {x : α} (hx : l[i]? = some x) (hp : p x = true) : idxG p 0 l = (i : Int) ↔ idxG p 0 (l.take i) < 0 := by
  rw [idxG_take]
  have hle : 0 ≤ idxG p 0 l ∧ idxG p 0 l ≤ (i : Int) := by
    rcases idxG_spec p l 0 with ⟨h1, h2⟩ | ⟨j, y, h0, h2, h3, h4, h5, h6⟩
    · rw [h2 x (List.mem_of_getElem? hx)] at hp; cases hp
    · rw [h2]
      rcases Nat.lt_or_ge i j with h | h
      · rw [h6 i x h hx] at hp; cases hp
      · omega
  constructor
  · intro e
    rw [e, if_neg (by omega)]; omega
  · intro h
    by_cases c : ((0 : Nat) : Int) ≤ idxG p 0 l ∧ idxG p 0 l < ((0 + i : Nat) : Int)
    · rw [if_pos c] at h; omega
    · omega
end Go.Proofs.YtdogpphfofimeaaDoor.E
set_option linter.unusedVariables false
namespace Go.Proofs.YtdogpphfofimeaaDoor.X
open Go.RowKit Go.Proofs.YtdogpphfofimeaaDoorW.PrintWords Go.Proofs.YtdogpphfofimeaaDoorW.PrintLast Go.Proofs.YtdogpphfofimeaaDoorW.PrintMore Go.Proofs.YtdogpphfofimeaaDoor.E
set_option maxHeartbeats 1000000 in
set_option maxRecDepth 100000 in
theorem idxFunc98 (A_ : Option Addr) (c_ : Nat) (l0 : List (S69)) (g : Nat) (lb : Array Value) (p : S69 → Bool) (w : World)
    (hr0 : Kd.C k69 w A_ l0.length l0) (eg : ∀ args w, (callFunc g args).run Tryd.prog w = .ok (.enter g args) w)
    (hp : ∀ (W : World) (x : S69) (A4 : Option Addr) (c4 : Nat), x ∈ l0 → Below w.heap.size w W → x.f4.length ≤ c4 → Kd.C Kd.string W A4 x.f4.length x.f4 → Calls Tryd.prog g (#[.agg #[.string x.f0, .int .i64 x.f1, .int .i64 x.f2, .int .i64 x.f3, .slice A4 x.f4.length c4, .bool x.f5, .string x.f6]] ++ lb) W fun e w' => e = .returned (.bool (p x)) ∧ Below W.heap.size W w') :
    Calls Tryd.prog 98 #[.slice A_ l0.length c_, .func (.func g) #[] lb] w fun e w' => e = .returned (.int .i64 (idxG p 0 l0)) ∧ Below w.heap.size w w' := by
  have hu69 := Tryd.underlying69
  have HL := Aside0.mk hr0.2.1
  have HR0 := Aside0.mk hr0
  have HP := Aside0.mk hp
  clear hr0 hp
  go_enter Tryd.func98, Tryd.ntmps98
  go_wp2
  go_loopg [5, 8] l0.length (fun gg _ s8 wr => ∃ x8 : Int, s8 = .int .i64 x8 ∧ Aside0 (0 ≤ x8) ∧ Aside0 (x8 ≤ (l0.length : Int)) ∧ Aside0 ((l0.length : Int) - x8 ≤ (gg : Int)) ∧ Aside0 (Below w.heap.size w wr) ∧ Aside0 (∀ (m : Nat) y, (m : Int) < x8 → l0[m]? = some y → p y = false))
  case atStart => exact ⟨0, rfl, ⟨by omega⟩, ⟨by omega⟩, ⟨by omega⟩, ⟨Below.refl _ _⟩, ⟨fun m y hm => by omega⟩⟩
  case round =>
    obtain ⟨x8, rfl, H0, H1, HG, HB, HN⟩ := hrel
    by_cases c : x8 < (l0.length : Int)
    · have p1 := H0.out
      have q1 := c
      have cb : decide (x8 < (l0.length : Int)) = true := decide_eq_true c
      obtain ⟨ad, A4, c4, e, hx0, hx1, hx2, hx3, hx4, hx5, hx6, hl4, hi4⟩ := at_T69 (Kd.C_below HR0.out HB.out) x8 p1 q1
      cases e
      replace p1 := eq_true p1
      replace q1 := eq_true q1
      have hel : l0[x8.toNat]? = some (rd_T69 l0 x8) := by
        have := H0.out
        unfold rd_T69
        rw [List.getD_eq_getElem?_getD, List.getElem?_eq_getElem (show x8.toNat < l0.length by omega), Option.getD_some]
      have hcall := HP.out wr (rd_T69 l0 x8) A4 c4 (List.mem_of_getElem? hel) HB.out hl4 hi4
      clear hl4 hi4
      have HE := Aside0.mk hel
      clear hel
      have hwr : wrap64 (x8 + 1) = x8 + 1 := wrap_id (by have := H0.out; omega) (by have := HL.out; omega)
      cases hq : p (rd_T69 l0 x8) with
      | true =>
        rw [hq] at hcall
        have HQ := Aside0.mk hq
        clear hq
        go_wp2_with (go_at_fn g; refine hcall.mono ?_; rintro e w' ⟨rfl, hb⟩)
        go_ret
        refine ⟨?_, ?_⟩
        · rw [idxG_here HE.out HQ.out (fun m y hm => HN.out m y (by have := H0.out; omega))]
          have := H0.out
          rw [Int.toNat_of_nonneg (by omega)]
          rfl
        · exact below_step HB.out hb
      | false =>
        rw [hq] at hcall
        have HQ := Aside0.mk hq
        clear hq
        go_wp2_with (go_at_fn g; refine hcall.mono ?_; rintro e w' ⟨rfl, hb⟩)
        go_roundg (l0.length - (x8.toNat + 1))
        case measure => have := HG.out; have := H0.out; omega
        case rel =>
          refine ⟨x8 + 1, by simp [*], ⟨by have := H0.out; omega⟩, ⟨by omega⟩, ⟨by have := H0.out; omega⟩, ⟨below_step HB.out hb⟩, ⟨fun m y hm hy => ?_⟩⟩
          by_cases e : (m : Int) = x8
          · have : x8.toNat = m := by omega
            rw [← this, HE.out] at hy
            cases hy
            exact HQ.out
          · exact HN.out m y (by omega) hy
    · have cb : decide (x8 < (l0.length : Int)) = false := decide_eq_false c
      have e : x8 = (l0.length : Int) := by have := H1.out; omega
      have HE := Aside0.mk e
      clear e
      go_wp2
      go_ret
      refine ⟨?_, HB.out⟩
      rw [idxG_none (fun m y hm => HN.out m y (by rw [HE.out]; omega))]
      rfl
end Go.Proofs.YtdogpphfofimeaaDoor.X
namespace Go.Proofs.YtdogpphfofimeaaDoor.X
open Go.RowKit Go.Proofs.YtdogpphfofimeaaDoorW.PrintWords Go.Proofs.YtdogpphfofimeaaDoorW.PrintLast Go.Proofs.YtdogpphfofimeaaDoorW.PrintMore Go.Proofs.YtdogpphfofimeaaDoor.E
attribute [local go_sem] max2_int min2_int max_two min_two max_three min_three max_four min_four   -- for this text's walks alone
set_option linter.unusedVariables false
set_option linter.unusedSimpArgs false
attribute [-simp] ByteArray.size_append ByteArray.size_extract
attribute [-go_sem] ByteArray.size_append'

/-! ### impl_fieldOf: function 68 -/
/-- The literal of fieldOf: is it the field of this name? -/
theorem fieldOf1 (x : S69) (A4 : Option Addr) (c4 : Nat) (a : ByteArray) (B : Nat) (w : World) (hc : w.cell? ⟨B, 0, none⟩ = some (.string a)) :
  Calls Tryd.prog 99 #[.agg #[.string x.f0, .int .i64 x.f1, .int .i64 x.f2, .int .i64 x.f3, .slice A4 x.f4.length c4, .bool x.f5, .string x.f6], .pointer (some ⟨B, 0, none⟩)] w fun e w' => e = .returned (.bool (x.f0.toList == a.toList)) ∧ Below w.heap.size w w' := by
 (have hu59 := Tryd.underlying69); (have hc' : ∀ o : Obj, (w.alloc o).cell? ⟨B, 0, none⟩ = some (.string a) := fun o => ((((Below.refl _ _).alloc (Nat.le_refl _) o).cell (p := ⟨B, 0, none⟩) (bltc w _ hc))).trans hc); (go_enter Tryd.func99, Tryd.ntmps99); (go_wp2); go_ret; (exact ⟨rfl, (Below.refl _ _).alloc (Nat.le_refl _) _⟩)
def impl_fieldOf.f (l0 : List S69) (a1 : ByteArray) : Option Int := some (idxG (fun x : S69 => x.f0.toList == a1.toList) 0 l0)
set_option maxHeartbeats 400000 in
set_option maxRecDepth 100000 in
theorem impl_fieldOf.calls (A0 : Option Addr) (c0 : Nat) (l0 : List (S69)) (a1 : ByteArray) (r : Int) (w : World) (hr0 : Kd.C k69 w A0 l0.length l0) (hc0 : l0.length ≤ c0) (h : impl_fieldOf.f l0 a1 = some r) :
  Calls Tryd.prog 68 #[.slice A0 l0.length c0, .string a1] w fun e w' => e = .returned (.int .i64 r) ∧ Below w.heap.size w w' := by
 (have hr := Option.some.inj h); (have HH := Aside0.mk hr); clear h hr
 have C := fun (W : World) (hb : Below w.heap.size w W) (hlt : w.heap.size < W.heap.size) (hcell : W.cell? ⟨w.heap.size, 0, none⟩ = some (.string a1)) =>
  idxFunc98 A0 c0 l0 99 #[.pointer (some ⟨w.heap.size, 0, none⟩)] (fun x : S69 => x.f0.toList == a1.toList) W (Kd.C_below hr0 hb) (enters_of Tryd.func99 (by kernel_rfl) rfl) (fun W' x A4 c4 _ hb' _ _ => fieldOf1 x A4 c4 a1 w.heap.size W' ((hb'.cell (p := ⟨w.heap.size, 0, none⟩) hlt).trans hcell))
 (have CC := Aside0.mk C); clear C hr0; (go_enter Tryd.func68, Tryd.ntmps68); (go_wp2_with (go_at_call 98; refine (CC.out _ ?s1 ?s2 ?s3).mono ?_; (case s1 => exact (Below.refl _ _).alloc (Nat.le_refl _) _); (case s2 => simp); (case s3 => simp); rintro e w' ⟨rfl, hb⟩)); go_ret; (refine ⟨?_, below_step ((Below.refl _ _).alloc (Nat.le_refl _) _) hb⟩); (rw [← HH.out]); rfl

end Go.Proofs.YtdogpphfofimeaaDoor.X
namespace Go.Proofs.YtdogpphfofimeaaDoor.X
open Go.RowKit Go.Proofs.YtdogpphfofimeaaDoorW.PrintWords Go.Proofs.YtdogpphfofimeaaDoorW.PrintLast Go.Proofs.YtdogpphfofimeaaDoorW.PrintMore
attribute [local go_sem] max2_int min2_int max_two min_two max_three min_three max_four min_four   -- for this text's walks alone
set_option linter.unusedVariables false
set_option linter.unusedSimpArgs false
attribute [-simp] ByteArray.size_append ByteArray.size_extract
attribute [-go_sem] ByteArray.size_append'

/-! ### impl_isField: function 74 -/
mutual
def impl_isField.j0 : Nat → List (S69) → Bool → ByteArray → Int → Int → Int → List ByteArray → Bool → ByteArray → Option (Bool)
 | 0, _, _, _, _, _, _, _, _, _ => none
 | k + 1, x0, x18, x102000, x102001, x102002, x102003, x102004, x102005, x102006 => if x18 = true then (some false) else ((impl_fieldOf.f x0 x102006).bind fun t104 => (if x102006.toList = ([] : List UInt8) then (impl_isField.j1 k false x102000 x102001 x102002 x102003 x102004 x102005 x102006) else (if t104 < 0 then (impl_isField.j1 k true x102000 x102001 x102002 x102003 x102004 x102005 x102006) else (if 0 ≤ t104 then (if t104 < (x0.length : Int) then (impl_isField.j1 k (((rd_T69 x0 t104).f1) != 4) x102000 x102001 x102002 x102003 x102004 x102005 x102006) else (none)) else (none)))))
def impl_isField.j1 : Nat → Bool → ByteArray → Int → Int → Int → List ByteArray → Bool → ByteArray → Option (Bool)
 | 0, _, _, _, _, _, _, _, _ => none
 | k + 1, x37, x102000, x102001, x102002, x102003, x102004, x102005, x102006 => if x37 = true then (some false) else (if x102001 = 3 then (impl_isField.j2 k false x102000 x102001 x102002 x102003 x102004 x102005 x102006) else (impl_isField.j2 k (decide ((x102004.length : Int) > 0)) x102000 x102001 x102002 x102003 x102004 x102005 x102006))
def impl_isField.j2 : Nat → Bool → ByteArray → Int → Int → Int → List ByteArray → Bool → ByteArray → Option (Bool)
 | 0, _, _, _, _, _, _, _, _ => none
 | k + 1, x46, x102000, x102001, x102002, x102003, x102004, x102005, x102006 => if x46 = true then (some false) else (if x102001 = 1 then (if x102002 ≥ (-999999) then (if x102002 ≤ x102003 then (some (decide (x102003 ≤ 999999))) else (some false)) else (some false)) else (if x102001 = 2 then (if x102002 ≥ 0 then (if x102002 ≤ x102003 then (some (decide (x102003 ≤ 40))) else (some false)) else (some false)) else (if x102001 = 3 then (impl_isField.l0 k x102004 (x102004.length : Int) 0 x102000 x102001 x102002 x102003 x102004 x102005 x102006) else (if x102001 = 4 then (if x102002 = 0 then (some (x102003 == 0)) else (some false)) else (some false)))))
def impl_isField.l0 : Nat → List ByteArray → Int → Int → ByteArray → Int → Int → Int → List ByteArray → Bool → ByteArray → Option (Bool)
 | 0, _, _, _, _, _, _, _, _, _, _ => none
 | k + 1, x86, x87, x88, x102000, x102001, x102002, x102003, x102004, x102005, x102006 => if x88 < x87 then (if 0 ≤ x88 then (if x88 < (x86.length : Int) then ((impl_isName.f k (rdOf ByteArray.empty x86 x88)).bind fun t108 => (if t108 = true then (if x88 ≤ (x102004.length : Int) then ((slices_Contains_string_string.f k (x102004.take (x88 : Int).toNat) (rdOf ByteArray.empty x86 x88)).bind fun t110 => (if t110 = true then (some false) else (impl_isField.l0 k x86 x87 (wrap64 (x88 + 1)) x102000 x102001 x102002 x102003 x102004 x102005 x102006))) else (none)) else (some false))) else (none)) else (none)) else ((impl_within.f (x102004.length : Int) 1 6).bind fun t106 => (if t106 = true then (if x102002 = 0 then (some (x102003 == 0)) else (some false)) else (some false)))
end
def impl_isField.f (k : Nat) (l0 : List (S69)) (a1_0 : ByteArray) (a1_1 : Int) (a1_2 : Int) (a1_3 : Int) (l1_4 : List ByteArray) (a1_5 : Bool) (a1_6 : ByteArray) : Option (Bool) := (impl_isName.f k a1_0).bind fun t102 => (if t102 = true then ((impl_fieldOf.f l0 a1_0).bind fun t103 => (impl_isField.j0 k l0 (decide (t103 ≥ 0)) a1_0 a1_1 a1_2 a1_3 l1_4 a1_5 a1_6)) else (impl_isField.j0 k l0 true a1_0 a1_1 a1_2 a1_3 l1_4 a1_5 a1_6))
set_option maxHeartbeats 8000000 in
set_option maxRecDepth 100000 in
theorem impl_isField.calls (k : Nat) (A0 : Option Addr) (c0 : Nat) (l0 : List (S69)) (a1_0 : ByteArray) (a1_1 : Int) (a1_2 : Int) (a1_3 : Int) (A1_4 : Option Addr) (c1_4 : Nat) (l1_4 : List ByteArray) (a1_5 : Bool) (a1_6 : ByteArray) (r : Bool) (w : World) (hr0 : Kd.C k69 w A0 l0.length l0) (hc0 : l0.length ≤ c0) (hr1_4 : Kd.C Kd.string w A1_4 l1_4.length l1_4) (hc1_4 : l1_4.length ≤ c1_4) (h : impl_isField.f k l0 a1_0 a1_1 a1_2 a1_3 l1_4 a1_5 a1_6 = some r) :
  Calls Tryd.prog 74 #[.slice A0 l0.length c0, .agg #[.string a1_0, .int .i64 a1_1, .int .i64 a1_2, .int .i64 a1_3, .slice A1_4 l1_4.length c1_4, .bool a1_5, .string a1_6]] w fun e w' => e = .returned (.bool r) ∧ Below w.heap.size w w' := by
 (have hu69 := Tryd.underlying69); (have HR0 := Aside0.mk hr0); (have HC0 := Aside0.mk hc0); clear hr0 hc0; (have HR1_4 := Aside0.mk hr1_4); (have HC1_4 := Aside0.mk hc1_4); clear hr1_4 hc1_4; (have HB := Aside0.mk (Below.refl w.heap.size w)); (unfold impl_isField.f at h); (have H := h); clear h; (have HC3 := Aside0.mk H); clear H; (go_enter Tryd.func74, Tryd.ntmps74); (go_upto_region 1 with (first | ((with_reducible refine gate_dst (N := 3) rfl ?_); refine box_event ?hg (N := 3) ?hd (cs := #[.string a1_0, .int .i64 a1_1, .int .i64 a1_2, .int .i64 a1_3, .slice A1_4 l1_4.length c1_4, .bool a1_5, .string a1_6]) (t := 69) ?hr ?_; (case hd => rfl); (case hg => rfl); (case hr => first | (go_simp; done) | (go_simp; rfl)); intro gb101 hg w4 hbox hb; have hB_ := zI hb HB; have n0_ := Aside0.mk (below_step hB_ hb); have n1_ := Aside0.mk (hbox); have n2_ := Aside0.mk (bx0 hg hB_); have n3_ := n2_; clear HB; have HB := n0_; have BK101 := n1_; have GW101 := n2_; have GE101 := n3_; clear n0_ n1_ n2_ n3_ hB_ hb hbox hg))); ((try simp only [Act.put, aS1, aS2, aS3])); (go_cut [18] (fun v18 wc => ∃ (kq : Nat) (x18_2 : Bool), v18 = .bool x18_2 ∧ Aside0 (impl_isField.j0 kq l0 x18_2 a1_0 a1_1 a1_2 a1_3 l1_4 a1_5 a1_6 = some r) ∧ Aside0 (kq ≤ k) ∧ Aside0 (wc.heap[gb101]? = some (.cells #[.string a1_0, .int .i64 a1_1, .int .i64 a1_2, .int .i64 a1_3, (.slice A1_4 l1_4.length c1_4), .bool a1_5, .string a1_6] 69 (0, 0))) ∧ Aside0 (Below w.heap.size w wc)))
 case first =>
  (have H := HC3.out); clear HC3; (replace H := obS H); (obtain ⟨t102, A5, H⟩ := H); (by_cases c6 : t102 = true)
  ·subst c6
   (rw [if_pos rfl] at H); (replace H := obS H); (obtain ⟨t103, A7, H⟩ := H); (have H' := Aside0.mk H); clear H; (have hcz8_0 := cz BK101.out 0); (have hcz8_1 := cz BK101.out 1); (have hcz8_2 := cz BK101.out 2); (have hcz8_3 := cz BK101.out 3); (have hcz8_4 := cz BK101.out 4); (have hcz8_5 := cz BK101.out 5); (have hcz8_6 := cz BK101.out 6); (have hfz8_0 := blk_frozen BK101.out 0); (have hfz8_1 := blk_frozen BK101.out 1); (have hfz8_2 := blk_frozen BK101.out 2); (have hfz8_3 := blk_frozen BK101.out 3); (have hfz8_4 := blk_frozen BK101.out 4); (have hfz8_5 := blk_frozen BK101.out 5); (have hfz8_6 := blk_frozen BK101.out 6); (go_wp2_with (first | ((with_reducible refine gate_callee (f := 103) rfl ?_); refine gL (some 10) Tryd.func103 #[.string a1_0] ?_; (with_reducible refine (impl_isName.calls k a1_0 true _ A5.out).mono ?_); rintro e w' ⟨rfl, ⟨nd, rfl⟩⟩; refine ⟨_, rfl, ?_⟩) | (go_at_call 68; (with_reducible refine (impl_fieldOf.calls _ _ l0 a1_0 t103 _ ?side1 ?side2 A7.out).mono ?_); (case side1 => exact Kd.C_below HR0.out (eI HB)); (case side2 => exact HC0.out); rintro e w9 ⟨rfl, hb⟩; have n0_ := Aside0.mk (kbI hb BK101); have n1_ := Aside0.mk (sI hb HB); clear BK101 HB; have BK101 := n0_; have HB := n1_; clear n0_ n1_; (try clear hb); (try clear hb2); (try clear hk); (try clear hi)))); (go_meet)
   case rel => exact ⟨_, (decide (t103 ≥ 0)), (by first | rfl | (simp; done) | (simp [*]; done)), H', ⟨by first | omega | exact Nat.le_refl _⟩, ⟨kI BK101⟩, ⟨eI HB⟩⟩
  ·replace c6 := Bool.eq_false_iff.mpr c6
   subst c6; (rw [if_neg (show ¬ (false = true) by decide)] at H); (have H' := Aside0.mk H); clear H; (have hcz10_0 := cz BK101.out 0); (have hcz10_1 := cz BK101.out 1); (have hcz10_2 := cz BK101.out 2); (have hcz10_3 := cz BK101.out 3); (have hcz10_4 := cz BK101.out 4); (have hcz10_5 := cz BK101.out 5); (have hcz10_6 := cz BK101.out 6); (have hfz10_0 := blk_frozen BK101.out 0); (have hfz10_1 := blk_frozen BK101.out 1); (have hfz10_2 := blk_frozen BK101.out 2); (have hfz10_3 := blk_frozen BK101.out 3); (have hfz10_4 := blk_frozen BK101.out 4); (have hfz10_5 := blk_frozen BK101.out 5); (have hfz10_6 := blk_frozen BK101.out 6); (go_wp2_with (first | ((with_reducible refine gate_callee (f := 103) rfl ?_); refine gL (some 10) Tryd.func103 #[.string a1_0] ?_; (with_reducible refine (impl_isName.calls k a1_0 false _ A5.out).mono ?_); rintro e w' ⟨rfl, ⟨nd, rfl⟩⟩; refine ⟨_, rfl, ?_⟩))); (go_meet)
   case rel => exact ⟨_, (true), (by first | rfl | (simp; done) | (simp [*]; done)), H', ⟨by first | omega | exact Nat.le_refl _⟩, ⟨kI BK101⟩, ⟨eI HB⟩⟩
 case rest =>
  clear HC3; (try clear c1); (try clear p2); (try clear c6); (try clear c7); (try clear c10); (try clear hcz10_0); (try clear hcz10_1); (try clear hcz10_2); (try clear hcz10_3); (try clear hcz10_4); (try clear hcz10_5); (try clear hcz10_6); (try clear hcz8_0); (try clear hcz8_1); (try clear hcz8_2); (try clear hcz8_3); (try clear hcz8_4); (try clear hcz8_5); (try clear hcz8_6); (try clear hfz10_0); (try clear hfz10_1); (try clear hfz10_2); (try clear hfz10_3); (try clear hfz10_4); (try clear hfz10_5); (try clear hfz10_6); (try clear hfz8_0); (try clear hfz8_1); (try clear hfz8_2); (try clear hfz8_3); (try clear hfz8_4); (try clear hfz8_5); (try clear hfz8_6); (obtain ⟨kq, x18_2, rfl, HA, HJ2, BK101, HB⟩ := hcut)
  cases kq with
  | zero => exact absurd HA.out (by simp [impl_isField.j0])
  | succ kj2 =>
   (have H := HA.out); clear HA; (simp only [impl_isField.j0] at H); (by_cases c11 : x18_2 = true); (· subst c11; (rw [if_pos rfl] at H); (obtain rfl := Option.some.inj H); (go_wp2); go_ret; (exact ⟨rfl, eI HB⟩))
   ·replace c11 := Bool.eq_false_iff.mpr c11
    subst c11; (rw [if_neg (show ¬ (false = true) by decide)] at H); (replace H := obS H); (obtain ⟨t104, A12, H⟩ := H); (have HC13 := Aside0.mk H); clear H; (have hcz14_0 := cz BK101.out 0); (have hcz14_1 := cz BK101.out 1); (have hcz14_2 := cz BK101.out 2); (have hcz14_3 := cz BK101.out 3); (have hcz14_4 := cz BK101.out 4); (have hcz14_5 := cz BK101.out 5); (have hcz14_6 := cz BK101.out 6); (have hfz14_0 := blk_frozen BK101.out 0); (have hfz14_1 := blk_frozen BK101.out 1); (have hfz14_2 := blk_frozen BK101.out 2); (have hfz14_3 := blk_frozen BK101.out 3); (have hfz14_4 := blk_frozen BK101.out 4); (have hfz14_5 := blk_frozen BK101.out 5); (have hfz14_6 := blk_frozen BK101.out 6); (go_upto_region 4 with (first | ((with_reducible refine gate_callee (f := 68) rfl ?_); refine gL (some 22) Tryd.func68 #[.slice A0 l0.length c0, .string a1_6] ?_; (with_reducible refine (impl_fieldOf.calls _ _ l0 a1_6 t104 _ ?side1 ?side2 A12.out).mono ?_); (case side1 => exact Kd.C_below HR0.out (eI HB)); (case side2 => exact HC0.out); rintro e w15 ⟨rfl, hb⟩; refine ⟨_, rfl, ?_⟩; have n0_ := Aside0.mk (kbI hb BK101); have n1_ := Aside0.mk (sI hb HB); clear BK101 HB; have BK101 := n0_; have HB := n1_; clear n0_ n1_; (try clear hb); (try clear hb2); (try clear hk); (try clear hi)))); ((try simp only [Act.put, aS1, aS2, aS3])); (go_cut [37] (fun v37 wc => ∃ (kq : Nat) (x37_12 : Bool), v37 = .bool x37_12 ∧ Aside0 (impl_isField.j1 kq x37_12 a1_0 a1_1 a1_2 a1_3 l1_4 a1_5 a1_6 = some r) ∧ Aside0 (kq ≤ kj2) ∧ Aside0 (wc.heap[gb101]? = some (.cells #[.string a1_0, .int .i64 a1_1, .int .i64 a1_2, .int .i64 a1_3, (.slice A1_4 l1_4.length c1_4), .bool a1_5, .string a1_6] 69 (0, 0))) ∧ Aside0 (Below w.heap.size w wc)))
    case first =>
     (have H := HC13.out); clear HC13; (by_cases c16 : a1_6.toList = ([] : List UInt8))
     ·rw [if_pos c16] at H
      (have c16b0 : a1_6.toList.isEmpty = true := List.isEmpty_iff.mpr c16); (have c16b1 : (!a1_6.toList.isEmpty) = false := by rw [List.isEmpty_iff.mpr c16]; rfl); (have c16b2 : (a1_6.toList == ([] : List UInt8)) = true := beq_iff_eq.mpr c16); (have c16b3 : (a1_6.toList != ([] : List UInt8)) = false := bne_eq_false_iff_eq.mpr c16); clear c16; ((first | rw [c16b0] | (simp only [i64_w, i32_w]; rw [c16b0]) | skip)); (have H' := Aside0.mk H); clear H; (have hcz17_0 := cz BK101.out 0); (have hcz17_1 := cz BK101.out 1); (have hcz17_2 := cz BK101.out 2); (have hcz17_3 := cz BK101.out 3); (have hcz17_4 := cz BK101.out 4); (have hcz17_5 := cz BK101.out 5); (have hcz17_6 := cz BK101.out 6); (have hfz17_0 := blk_frozen BK101.out 0); (have hfz17_1 := blk_frozen BK101.out 1); (have hfz17_2 := blk_frozen BK101.out 2); (have hfz17_3 := blk_frozen BK101.out 3); (have hfz17_4 := blk_frozen BK101.out 4); (have hfz17_5 := blk_frozen BK101.out 5); (have hfz17_6 := blk_frozen BK101.out 6); (go_wp2); (go_meet)
      case rel => exact ⟨_, (false), (by first | rfl | (simp; done) | (simp [*]; done)), H', ⟨by have := HJ2.out; first | omega | exact Nat.le_refl _⟩, ⟨kI BK101⟩, ⟨eI HB⟩⟩
     ·rw [if_neg c16] at H
      (have c16b0 : a1_6.toList.isEmpty = false := by rw [Bool.eq_false_iff]; exact fun h_ => c16 (List.isEmpty_iff.mp h_)); (have c16b1 : (!a1_6.toList.isEmpty) = true := by rw [show a1_6.toList.isEmpty = false from by rw [Bool.eq_false_iff]; exact fun h_ => c16 (List.isEmpty_iff.mp h_)]; rfl); (have c16b2 : (a1_6.toList == ([] : List UInt8)) = false := beq_eq_false_iff_ne.mpr c16); (have c16b3 : (a1_6.toList != ([] : List UInt8)) = true := bne_iff_ne.mpr c16); ((first | rw [c16b0] | (simp only [i64_w, i32_w]; rw [c16b0]) | skip)); (by_cases c18 : t104 < 0)
      ·rw [if_pos c18] at H
       (have c18b0 := decide_eq_true c18); clear c18; (have H' := Aside0.mk H); clear H; (have hcz19_0 := cz BK101.out 0); (have hcz19_1 := cz BK101.out 1); (have hcz19_2 := cz BK101.out 2); (have hcz19_3 := cz BK101.out 3); (have hcz19_4 := cz BK101.out 4); (have hcz19_5 := cz BK101.out 5); (have hcz19_6 := cz BK101.out 6); (have hfz19_0 := blk_frozen BK101.out 0); (have hfz19_1 := blk_frozen BK101.out 1); (have hfz19_2 := blk_frozen BK101.out 2); (have hfz19_3 := blk_frozen BK101.out 3); (have hfz19_4 := blk_frozen BK101.out 4); (have hfz19_5 := blk_frozen BK101.out 5); (have hfz19_6 := blk_frozen BK101.out 6); (go_wp2); (go_meet)
       case rel => exact ⟨_, (true), (by first | rfl | (simp; done) | (simp [*]; done)), H', ⟨by have := HJ2.out; first | omega | exact Nat.le_refl _⟩, ⟨kI BK101⟩, ⟨eI HB⟩⟩
      ·rw [if_neg c18] at H
       (have c18b0 := decide_eq_false c18); clear c18; (by_cases c20 : 0 ≤ t104)
       ·rw [if_pos c20] at H
        (have c20b0 := decide_eq_true c20); clear c20; (by_cases c21 : t104 < (l0.length : Int))
        ·rw [if_pos c21] at H
         (have c21b0 := decide_eq_true c21); clear c21; (have H' := Aside0.mk H); clear H; (have hcz22_0 := cz BK101.out 0); (have hcz22_1 := cz BK101.out 1); (have hcz22_2 := cz BK101.out 2); (have hcz22_3 := cz BK101.out 3); (have hcz22_4 := cz BK101.out 4); (have hcz22_5 := cz BK101.out 5); (have hcz22_6 := cz BK101.out 6); (have hfz22_0 := blk_frozen BK101.out 0); (have hfz22_1 := blk_frozen BK101.out 1); (have hfz22_2 := blk_frozen BK101.out 2); (have hfz22_3 := blk_frozen BK101.out 3); (have hfz22_4 := blk_frozen BK101.out 4); (have hfz22_5 := blk_frozen BK101.out 5); (have hfz22_6 := blk_frozen BK101.out 6); (have p105 : 0 ≤ (t104 : Int) := odt); (have q105 : t104 < (l0.length : Int) := odt); (obtain ⟨ad105, A105_4, c105_4, e105, hx105_0, hx105_1, hx105_2, hx105_3, hx105_4, hx105_5, hx105_6, hl105_4, hi105_4⟩ := at_T69 HR0.out t104 p105 q105); (cases e105); (replace hx105_0 := hcI HB hx105_0); (replace hx105_1 := hcI HB hx105_1); (replace hx105_2 := hcI HB hx105_2); (replace hx105_3 := hcI HB hx105_3); (replace hx105_4 := hcI HB hx105_4); (replace hx105_5 := hcI HB hx105_5); (replace hx105_6 := hcI HB hx105_6); (have HR105_4 := Aside0.mk hi105_4); (have HC105_4 := Aside0.mk hl105_4); clear hi105_4 hl105_4; (replace p105 := eq_true p105); (replace q105 := eq_true q105); (go_wp2); (go_meet)
         case rel => exact ⟨_, ((((rd_T69 l0 t104).f1) != 4)), (by first | rfl | (simp; done) | (simp [*]; done)), H', ⟨by have := HJ2.out; first | omega | exact Nat.le_refl _⟩, ⟨kI BK101⟩, ⟨eI HB⟩⟩
        ·rw [if_neg c21] at H
         exact absurd H (by simp)
       ·rw [if_neg c20] at H
        exact absurd H (by simp)
    case rest =>
     clear HC13; (try clear c1); (try clear p1); (try clear q1); (try clear hx1); (try clear c2); (try clear p2); (try clear c6); (try clear c7); (try clear c10); (try clear p10); (try clear q10); (try clear hx10); (try clear c11); (try clear c16); (try clear c16b0); (try clear c16b1); (try clear c16b2); (try clear c18); (try clear c18b0); (try clear c20); (try clear c20b0); (try clear c21); (try clear c21b0); (try clear hcz10_0); (try clear hcz10_1); (try clear hcz10_2); (try clear hcz10_3); (try clear hcz10_4); (try clear hcz10_5); (try clear hcz10_6); (try clear hcz14_0); (try clear hcz14_1); (try clear hcz14_2); (try clear hcz14_3); (try clear hcz14_4); (try clear hcz14_5); (try clear hcz14_6); (try clear hcz17_0); (try clear hcz17_1); (try clear hcz17_2); (try clear hcz17_3); (try clear hcz17_4); (try clear hcz17_5); (try clear hcz17_6); (try clear hcz19_0); (try clear hcz19_1); (try clear hcz19_2); (try clear hcz19_3); (try clear hcz19_4); (try clear hcz19_5); (try clear hcz19_6); (try clear hcz22_0); (try clear hcz22_1); (try clear hcz22_2); (try clear hcz22_3); (try clear hcz22_4); (try clear hcz22_5); (try clear hcz22_6); (try clear hcz8_0); (try clear hcz8_1); (try clear hcz8_2); (try clear hcz8_3); (try clear hcz8_4); (try clear hcz8_5); (try clear hcz8_6); (try clear hfz10_0); (try clear hfz10_1); (try clear hfz10_2); (try clear hfz10_3); (try clear hfz10_4); (try clear hfz10_5); (try clear hfz10_6); (try clear hfz14_0); (try clear hfz14_1); (try clear hfz14_2); (try clear hfz14_3); (try clear hfz14_4); (try clear hfz14_5); (try clear hfz14_6); (try clear hfz17_0); (try clear hfz17_1); (try clear hfz17_2); (try clear hfz17_3); (try clear hfz17_4); (try clear hfz17_5); (try clear hfz17_6); (try clear hfz19_0); (try clear hfz19_1); (try clear hfz19_2); (try clear hfz19_3); (try clear hfz19_4); (try clear hfz19_5); (try clear hfz19_6); (try clear hfz22_0); (try clear hfz22_1); (try clear hfz22_2); (try clear hfz22_3); (try clear hfz22_4); (try clear hfz22_5); (try clear hfz22_6); (try clear hfz8_0); (try clear hfz8_1); (try clear hfz8_2); (try clear hfz8_3); (try clear hfz8_4); (try clear hfz8_5); (try clear hfz8_6); (try clear hx105_0); (try clear hx105_1); (try clear hx105_2); (try clear hx105_3); (try clear hx105_4); (try clear hx105_5); (try clear hx105_6); (try clear p105); (try clear p2); (try clear q105); (obtain ⟨kq, x37_12, rfl, HA, HJ12, BK101, HB⟩ := hcut)
     cases kq with
     | zero => exact absurd HA.out (by simp [impl_isField.j1])
     | succ kj12 =>
      (have H := HA.out); clear HA; (simp only [impl_isField.j1] at H); (by_cases c23 : x37_12 = true); (· subst c23; (rw [if_pos rfl] at H); (obtain rfl := Option.some.inj H); (go_wp2); go_ret; (exact ⟨rfl, eI HB⟩))
      ·replace c23 := Bool.eq_false_iff.mpr c23
       subst c23; (rw [if_neg (show ¬ (false = true) by decide)] at H); (have HC24 := Aside0.mk H); clear H; (go_upto_region 6 with (fail)); (go_cut [46] (fun v46 wc => ∃ (kq : Nat) (x46_23 : Bool), v46 = .bool x46_23 ∧ Aside0 (impl_isField.j2 kq x46_23 a1_0 a1_1 a1_2 a1_3 l1_4 a1_5 a1_6 = some r) ∧ Aside0 (kq ≤ kj12) ∧ Aside0 (wc.heap[gb101]? = some (.cells #[.string a1_0, .int .i64 a1_1, .int .i64 a1_2, .int .i64 a1_3, (.slice A1_4 l1_4.length c1_4), .bool a1_5, .string a1_6] 69 (0, 0))) ∧ Aside0 (Below w.heap.size w wc)))
       case first =>
        (have H := HC24.out); clear HC24; (by_cases c25 : a1_1 = 3)
        ·rw [if_pos c25] at H
         (have c25b0 : (a1_1 == 3) = true := beq_iff_eq.mpr c25); (have c25b1 : (a1_1 != 3) = false := bne_eq_false_iff_eq.mpr c25); clear c25; ((first | rw [c25b0] | (simp only [i64_w, i32_w]; rw [c25b0]) | skip)); (have H' := Aside0.mk H); clear H; (have hcz26_0 := cz BK101.out 0); (have hcz26_1 := cz BK101.out 1); (have hcz26_2 := cz BK101.out 2); (have hcz26_3 := cz BK101.out 3); (have hcz26_4 := cz BK101.out 4); (have hcz26_5 := cz BK101.out 5); (have hcz26_6 := cz BK101.out 6); (have hfz26_0 := blk_frozen BK101.out 0); (have hfz26_1 := blk_frozen BK101.out 1); (have hfz26_2 := blk_frozen BK101.out 2); (have hfz26_3 := blk_frozen BK101.out 3); (have hfz26_4 := blk_frozen BK101.out 4); (have hfz26_5 := blk_frozen BK101.out 5); (have hfz26_6 := blk_frozen BK101.out 6); (go_wp2); (go_meet)
         case rel => exact ⟨_, (false), (by first | rfl | (simp; done) | (simp [*]; done)), H', ⟨by have := HJ2.out; have := HJ12.out; first | omega | exact Nat.le_refl _⟩, ⟨kI BK101⟩, ⟨eI HB⟩⟩
        ·rw [if_neg c25] at H
         (have c25b0 : (a1_1 == 3) = false := beq_eq_false_iff_ne.mpr c25); (have c25b1 : (a1_1 != 3) = true := bne_iff_ne.mpr c25); ((first | rw [c25b0] | (simp only [i64_w, i32_w]; rw [c25b0]) | skip)); (have H' := Aside0.mk H); clear H; (have hcz27_0 := cz BK101.out 0); (have hcz27_1 := cz BK101.out 1); (have hcz27_2 := cz BK101.out 2); (have hcz27_3 := cz BK101.out 3); (have hcz27_4 := cz BK101.out 4); (have hcz27_5 := cz BK101.out 5); (have hcz27_6 := cz BK101.out 6); (have hfz27_0 := blk_frozen BK101.out 0); (have hfz27_1 := blk_frozen BK101.out 1); (have hfz27_2 := blk_frozen BK101.out 2); (have hfz27_3 := blk_frozen BK101.out 3); (have hfz27_4 := blk_frozen BK101.out 4); (have hfz27_5 := blk_frozen BK101.out 5); (have hfz27_6 := blk_frozen BK101.out 6); (go_wp2); (go_meet)
         case rel => exact ⟨_, (decide ((l1_4.length : Int) > 0)), (by first | rfl | (simp; done) | (simp [*]; done)), H', ⟨by have := HJ2.out; have := HJ12.out; first | omega | exact Nat.le_refl _⟩, ⟨kI BK101⟩, ⟨eI HB⟩⟩
       case rest =>
        clear HC24; (try clear c1); (try clear p1); (try clear q1); (try clear hx1); (try clear c2); (try clear p2); (try clear c6); (try clear c7); (try clear c10); (try clear p10); (try clear q10); (try clear hx10); (try clear c11); (try clear c16); (try clear c16b0); (try clear c16b1); (try clear c16b2); (try clear c18); (try clear c18b0); (try clear c20); (try clear c20b0); (try clear c21); (try clear c21b0); (try clear c23); (try clear c25); (try clear c25b0); (try clear c25b1); (try clear hcz10_0); (try clear hcz10_1); (try clear hcz10_2); (try clear hcz10_3); (try clear hcz10_4); (try clear hcz10_5); (try clear hcz10_6); (try clear hcz14_0); (try clear hcz14_1); (try clear hcz14_2); (try clear hcz14_3); (try clear hcz14_4); (try clear hcz14_5); (try clear hcz14_6); (try clear hcz17_0); (try clear hcz17_1); (try clear hcz17_2); (try clear hcz17_3); (try clear hcz17_4); (try clear hcz17_5); (try clear hcz17_6); (try clear hcz19_0); (try clear hcz19_1); (try clear hcz19_2); (try clear hcz19_3); (try clear hcz19_4); (try clear hcz19_5); (try clear hcz19_6); (try clear hcz22_0); (try clear hcz22_1); (try clear hcz22_2); (try clear hcz22_3); (try clear hcz22_4); (try clear hcz22_5); (try clear hcz22_6); (try clear hcz26_0); (try clear hcz26_1); (try clear hcz26_2); (try clear hcz26_3); (try clear hcz26_4); (try clear hcz26_5); (try clear hcz26_6); (try clear hcz27_0); (try clear hcz27_1); (try clear hcz27_2); (try clear hcz27_3); (try clear hcz27_4); (try clear hcz27_5); (try clear hcz27_6); (try clear hcz8_0); (try clear hcz8_1); (try clear hcz8_2); (try clear hcz8_3); (try clear hcz8_4); (try clear hcz8_5); (try clear hcz8_6); (try clear hfz10_0); (try clear hfz10_1); (try clear hfz10_2); (try clear hfz10_3); (try clear hfz10_4); (try clear hfz10_5); (try clear hfz10_6); (try clear hfz14_0); (try clear hfz14_1); (try clear hfz14_2); (try clear hfz14_3); (try clear hfz14_4); (try clear hfz14_5); (try clear hfz14_6); (try clear hfz17_0); (try clear hfz17_1); (try clear hfz17_2); (try clear hfz17_3); (try clear hfz17_4); (try clear hfz17_5); (try clear hfz17_6); (try clear hfz19_0); (try clear hfz19_1); (try clear hfz19_2); (try clear hfz19_3); (try clear hfz19_4); (try clear hfz19_5); (try clear hfz19_6); (try clear hfz22_0); (try clear hfz22_1); (try clear hfz22_2); (try clear hfz22_3); (try clear hfz22_4); (try clear hfz22_5); (try clear hfz22_6); (try clear hfz26_0); (try clear hfz26_1); (try clear hfz26_2); (try clear hfz26_3); (try clear hfz26_4); (try clear hfz26_5); (try clear hfz26_6); (try clear hfz27_0); (try clear hfz27_1); (try clear hfz27_2); (try clear hfz27_3); (try clear hfz27_4); (try clear hfz27_5); (try clear hfz27_6); (try clear hfz8_0); (try clear hfz8_1); (try clear hfz8_2); (try clear hfz8_3); (try clear hfz8_4); (try clear hfz8_5); (try clear hfz8_6); (try clear hx105_0); (try clear hx105_1); (try clear hx105_2); (try clear hx105_3); (try clear hx105_4); (try clear hx105_5); (try clear hx105_6); (try clear p1); (try clear p10); (try clear p105); (try clear p2); (try clear q1); (try clear q10); (try clear q105); (obtain ⟨kq, x46_23, rfl, HA, HJ23, BK101, HB⟩ := hcut)
        cases kq with
        | zero => exact absurd HA.out (by simp [impl_isField.j2])
        | succ kj23 =>
         (have H := HA.out); clear HA; (simp only [impl_isField.j2] at H); (by_cases c28 : x46_23 = true); (· subst c28; (rw [if_pos rfl] at H); (obtain rfl := Option.some.inj H); (go_wp2); go_ret; (exact ⟨rfl, eI HB⟩))
         ·replace c28 := Bool.eq_false_iff.mpr c28
          subst c28; (rw [if_neg (show ¬ (false = true) by decide)] at H); (by_cases c29 : a1_1 = 1)
          ·rw [if_pos c29] at H
           (have c29b0 : (a1_1 == 1) = true := beq_iff_eq.mpr c29); (have c29b1 : (a1_1 != 1) = false := bne_eq_false_iff_eq.mpr c29); clear c29; (by_cases c30 : a1_2 ≥ (-999999))
           ·rw [if_pos c30] at H
            (have c30b0 : decide ((-999999) ≤ a1_2) = true := decide_eq_true c30); clear c30; (by_cases c31 : a1_2 ≤ a1_3)
            ·rw [if_pos c31] at H
             (have c31b0 := decide_eq_true c31); clear c31; (obtain rfl := Option.some.inj H); (have hcz32_0 := cz BK101.out 0); (have hcz32_1 := cz BK101.out 1); (have hcz32_2 := cz BK101.out 2); (have hcz32_3 := cz BK101.out 3); (have hcz32_4 := cz BK101.out 4); (have hcz32_5 := cz BK101.out 5); (have hcz32_6 := cz BK101.out 6); (have hfz32_0 := blk_frozen BK101.out 0); (have hfz32_1 := blk_frozen BK101.out 1); (have hfz32_2 := blk_frozen BK101.out 2); (have hfz32_3 := blk_frozen BK101.out 3); (have hfz32_4 := blk_frozen BK101.out 4); (have hfz32_5 := blk_frozen BK101.out 5); (have hfz32_6 := blk_frozen BK101.out 6); (go_wp2); go_ret; (exact ⟨rfl, eI HB⟩)
            ·rw [if_neg c31] at H
             (have c31b0 := decide_eq_false c31); clear c31; (obtain rfl := Option.some.inj H); (have hcz33_0 := cz BK101.out 0); (have hcz33_1 := cz BK101.out 1); (have hcz33_2 := cz BK101.out 2); (have hcz33_3 := cz BK101.out 3); (have hcz33_4 := cz BK101.out 4); (have hcz33_5 := cz BK101.out 5); (have hcz33_6 := cz BK101.out 6); (have hfz33_0 := blk_frozen BK101.out 0); (have hfz33_1 := blk_frozen BK101.out 1); (have hfz33_2 := blk_frozen BK101.out 2); (have hfz33_3 := blk_frozen BK101.out 3); (have hfz33_4 := blk_frozen BK101.out 4); (have hfz33_5 := blk_frozen BK101.out 5); (have hfz33_6 := blk_frozen BK101.out 6); (go_wp2); go_ret; (exact ⟨rfl, eI HB⟩)
           ·rw [if_neg c30] at H
            (have c30b0 : decide ((-999999) ≤ a1_2) = false := decide_eq_false c30); clear c30; (obtain rfl := Option.some.inj H); (have hcz34_0 := cz BK101.out 0); (have hcz34_1 := cz BK101.out 1); (have hcz34_2 := cz BK101.out 2); (have hcz34_3 := cz BK101.out 3); (have hcz34_4 := cz BK101.out 4); (have hcz34_5 := cz BK101.out 5); (have hcz34_6 := cz BK101.out 6); (have hfz34_0 := blk_frozen BK101.out 0); (have hfz34_1 := blk_frozen BK101.out 1); (have hfz34_2 := blk_frozen BK101.out 2); (have hfz34_3 := blk_frozen BK101.out 3); (have hfz34_4 := blk_frozen BK101.out 4); (have hfz34_5 := blk_frozen BK101.out 5); (have hfz34_6 := blk_frozen BK101.out 6); (go_wp2); go_ret; (exact ⟨rfl, eI HB⟩)
          ·rw [if_neg c29] at H
           (have c29b0 : (a1_1 == 1) = false := beq_eq_false_iff_ne.mpr c29); (have c29b1 : (a1_1 != 1) = true := bne_iff_ne.mpr c29); (by_cases c35 : a1_1 = 2)
           ·rw [if_pos c35] at H
            (have c35b0 : (a1_1 == 2) = true := beq_iff_eq.mpr c35); (have c35b1 : (a1_1 != 2) = false := bne_eq_false_iff_eq.mpr c35); clear c35; (by_cases c36 : a1_2 ≥ 0)
            ·rw [if_pos c36] at H
             (have c36b0 : decide (0 ≤ a1_2) = true := decide_eq_true c36); clear c36; (by_cases c37 : a1_2 ≤ a1_3)
             ·rw [if_pos c37] at H
              (have c37b0 := decide_eq_true c37); clear c37; (obtain rfl := Option.some.inj H); (have hcz38_0 := cz BK101.out 0); (have hcz38_1 := cz BK101.out 1); (have hcz38_2 := cz BK101.out 2); (have hcz38_3 := cz BK101.out 3); (have hcz38_4 := cz BK101.out 4); (have hcz38_5 := cz BK101.out 5); (have hcz38_6 := cz BK101.out 6); (have hfz38_0 := blk_frozen BK101.out 0); (have hfz38_1 := blk_frozen BK101.out 1); (have hfz38_2 := blk_frozen BK101.out 2); (have hfz38_3 := blk_frozen BK101.out 3); (have hfz38_4 := blk_frozen BK101.out 4); (have hfz38_5 := blk_frozen BK101.out 5); (have hfz38_6 := blk_frozen BK101.out 6); (go_wp2); go_ret; (exact ⟨rfl, eI HB⟩)
             ·rw [if_neg c37] at H
              (have c37b0 := decide_eq_false c37); clear c37; (obtain rfl := Option.some.inj H); (have hcz39_0 := cz BK101.out 0); (have hcz39_1 := cz BK101.out 1); (have hcz39_2 := cz BK101.out 2); (have hcz39_3 := cz BK101.out 3); (have hcz39_4 := cz BK101.out 4); (have hcz39_5 := cz BK101.out 5); (have hcz39_6 := cz BK101.out 6); (have hfz39_0 := blk_frozen BK101.out 0); (have hfz39_1 := blk_frozen BK101.out 1); (have hfz39_2 := blk_frozen BK101.out 2); (have hfz39_3 := blk_frozen BK101.out 3); (have hfz39_4 := blk_frozen BK101.out 4); (have hfz39_5 := blk_frozen BK101.out 5); (have hfz39_6 := blk_frozen BK101.out 6); (go_wp2); go_ret; (exact ⟨rfl, eI HB⟩)
            ·rw [if_neg c36] at H
             (have c36b0 : decide (0 ≤ a1_2) = false := decide_eq_false c36); clear c36; (obtain rfl := Option.some.inj H); (have hcz40_0 := cz BK101.out 0); (have hcz40_1 := cz BK101.out 1); (have hcz40_2 := cz BK101.out 2); (have hcz40_3 := cz BK101.out 3); (have hcz40_4 := cz BK101.out 4); (have hcz40_5 := cz BK101.out 5); (have hcz40_6 := cz BK101.out 6); (have hfz40_0 := blk_frozen BK101.out 0); (have hfz40_1 := blk_frozen BK101.out 1); (have hfz40_2 := blk_frozen BK101.out 2); (have hfz40_3 := blk_frozen BK101.out 3); (have hfz40_4 := blk_frozen BK101.out 4); (have hfz40_5 := blk_frozen BK101.out 5); (have hfz40_6 := blk_frozen BK101.out 6); (go_wp2); go_ret; (exact ⟨rfl, eI HB⟩)
           ·rw [if_neg c35] at H
            (have c35b0 : (a1_1 == 2) = false := beq_eq_false_iff_ne.mpr c35); (have c35b1 : (a1_1 != 2) = true := bne_iff_ne.mpr c35); (by_cases c41 : a1_1 = 3)
            ·rw [if_pos c41] at H
             (have c41b0 : (a1_1 == 3) = true := beq_iff_eq.mpr c41); (have c41b1 : (a1_1 != 3) = false := bne_eq_false_iff_eq.mpr c41); clear c41; (have H' := Aside0.mk H); clear H; (have hcz42_0 := cz BK101.out 0); (have hcz42_1 := cz BK101.out 1); (have hcz42_2 := cz BK101.out 2); (have hcz42_3 := cz BK101.out 3); (have hcz42_4 := cz BK101.out 4); (have hcz42_5 := cz BK101.out 5); (have hcz42_6 := cz BK101.out 6); (have hfz42_0 := blk_frozen BK101.out 0); (have hfz42_1 := blk_frozen BK101.out 1); (have hfz42_2 := blk_frozen BK101.out 2); (have hfz42_3 := blk_frozen BK101.out 3); (have hfz42_4 := blk_frozen BK101.out 4); (have hfz42_5 := blk_frozen BK101.out 5); (have hfz42_6 := blk_frozen BK101.out 6); (go_wp2); (go_loopg [88] kj23 (fun kq v88 w' => ∃ (x88_4 : Int), v88 = .int .i64 x88_4 ∧ Aside0 (impl_isField.l0 kq l1_4 (l1_4.length : Int) x88_4 a1_0 a1_1 a1_2 a1_3 l1_4 a1_5 a1_6 = some r) ∧ Aside0 (kq ≤ kj23) ∧ Aside0 (w'.heap[gb101]? = some (.cells #[.string a1_0, .int .i64 a1_1, .int .i64 a1_2, .int .i64 a1_3, (.slice A1_4 l1_4.length c1_4), .bool a1_5, .string a1_6] 69 (0, 0))) ∧ Aside0 (Below w.heap.size w w')))
             case atStart => exact ⟨(0), (by first | rfl | (simp; done) | (simp [*]; done)), H', ⟨Nat.le_refl _⟩, ⟨kI BK101⟩, ⟨eI HB⟩⟩
             case round =>
              (clear H'); (try clear c1); (try clear p1); (try clear q1); (try clear hx1); (try clear c2); (try clear p2); (try clear c3); (try clear c4); (try clear c6); (try clear c7); (try clear c10); (try clear p10); (try clear q10); (try clear hx10); (try clear c11); (try clear c16); (try clear c16b0); (try clear c16b1); (try clear c16b2); (try clear c18); (try clear c18b0); (try clear c20); (try clear c20b0); (try clear c21); (try clear c21b0); (try clear c23); (try clear c25); (try clear c25b0); (try clear c25b1); (try clear c28); (try clear c29); (try clear c29b0); (try clear c29b1); (try clear c30); (try clear c30b0); (try clear c31); (try clear c31b0); (try clear c35); (try clear c35b0); (try clear c35b1); (try clear c36); (try clear c36b0); (try clear c37); (try clear c37b0); (try clear c41); (try clear c41b0); (try clear c41b1); (try clear hcz10_0); (try clear hcz10_1); (try clear hcz10_2); (try clear hcz10_3); (try clear hcz10_4); (try clear hcz10_5); (try clear hcz10_6); (try clear hcz14_0); (try clear hcz14_1); (try clear hcz14_2); (try clear hcz14_3); (try clear hcz14_4); (try clear hcz14_5); (try clear hcz14_6); (try clear hcz17_0); (try clear hcz17_1); (try clear hcz17_2); (try clear hcz17_3); (try clear hcz17_4); (try clear hcz17_5); (try clear hcz17_6); (try clear hcz19_0); (try clear hcz19_1); (try clear hcz19_2); (try clear hcz19_3); (try clear hcz19_4); (try clear hcz19_5); (try clear hcz19_6); (try clear hcz22_0); (try clear hcz22_1); (try clear hcz22_2); (try clear hcz22_3); (try clear hcz22_4); (try clear hcz22_5); (try clear hcz22_6); (try clear hcz26_0); (try clear hcz26_1); (try clear hcz26_2); (try clear hcz26_3); (try clear hcz26_4); (try clear hcz26_5); (try clear hcz26_6); (try clear hcz27_0); (try clear hcz27_1); (try clear hcz27_2); (try clear hcz27_3); (try clear hcz27_4); (try clear hcz27_5); (try clear hcz27_6); (try clear hcz32_0); (try clear hcz32_1); (try clear hcz32_2); (try clear hcz32_3); (try clear hcz32_4); (try clear hcz32_5); (try clear hcz32_6); (try clear hcz33_0); (try clear hcz33_1); (try clear hcz33_2); (try clear hcz33_3); (try clear hcz33_4); (try clear hcz33_5); (try clear hcz33_6); (try clear hcz34_0); (try clear hcz34_1); (try clear hcz34_2); (try clear hcz34_3); (try clear hcz34_4); (try clear hcz34_5); (try clear hcz34_6); (try clear hcz38_0); (try clear hcz38_1); (try clear hcz38_2); (try clear hcz38_3); (try clear hcz38_4); (try clear hcz38_5); (try clear hcz38_6); (try clear hcz39_0); (try clear hcz39_1); (try clear hcz39_2); (try clear hcz39_3); (try clear hcz39_4); (try clear hcz39_5); (try clear hcz39_6); (try clear hcz40_0); (try clear hcz40_1); (try clear hcz40_2); (try clear hcz40_3); (try clear hcz40_4); (try clear hcz40_5); (try clear hcz40_6); (try clear hcz42_0); (try clear hcz42_1); (try clear hcz42_2); (try clear hcz42_3); (try clear hcz42_4); (try clear hcz42_5); (try clear hcz42_6); (try clear hcz8_0); (try clear hcz8_1); (try clear hcz8_2); (try clear hcz8_3); (try clear hcz8_4); (try clear hcz8_5); (try clear hcz8_6); (try clear hfz10_0); (try clear hfz10_1); (try clear hfz10_2); (try clear hfz10_3); (try clear hfz10_4); (try clear hfz10_5); (try clear hfz10_6); (try clear hfz14_0); (try clear hfz14_1); (try clear hfz14_2); (try clear hfz14_3); (try clear hfz14_4); (try clear hfz14_5); (try clear hfz14_6); (try clear hfz17_0); (try clear hfz17_1); (try clear hfz17_2); (try clear hfz17_3); (try clear hfz17_4); (try clear hfz17_5); (try clear hfz17_6); (try clear hfz19_0); (try clear hfz19_1); (try clear hfz19_2); (try clear hfz19_3); (try clear hfz19_4); (try clear hfz19_5); (try clear hfz19_6); (try clear hfz22_0); (try clear hfz22_1); (try clear hfz22_2); (try clear hfz22_3); (try clear hfz22_4); (try clear hfz22_5); (try clear hfz22_6); (try clear hfz26_0); (try clear hfz26_1); (try clear hfz26_2); (try clear hfz26_3); (try clear hfz26_4); (try clear hfz26_5); (try clear hfz26_6); (try clear hfz27_0); (try clear hfz27_1); (try clear hfz27_2); (try clear hfz27_3); (try clear hfz27_4); (try clear hfz27_5); (try clear hfz27_6); (try clear hfz32_0); (try clear hfz32_1); (try clear hfz32_2); (try clear hfz32_3); (try clear hfz32_4); (try clear hfz32_5); (try clear hfz32_6); (try clear hfz33_0); (try clear hfz33_1); (try clear hfz33_2); (try clear hfz33_3); (try clear hfz33_4); (try clear hfz33_5); (try clear hfz33_6); (try clear hfz34_0); (try clear hfz34_1); (try clear hfz34_2); (try clear hfz34_3); (try clear hfz34_4); (try clear hfz34_5); (try clear hfz34_6); (try clear hfz38_0); (try clear hfz38_1); (try clear hfz38_2); (try clear hfz38_3); (try clear hfz38_4); (try clear hfz38_5); (try clear hfz38_6); (try clear hfz39_0); (try clear hfz39_1); (try clear hfz39_2); (try clear hfz39_3); (try clear hfz39_4); (try clear hfz39_5); (try clear hfz39_6); (try clear hfz40_0); (try clear hfz40_1); (try clear hfz40_2); (try clear hfz40_3); (try clear hfz40_4); (try clear hfz40_5); (try clear hfz40_6); (try clear hfz42_0); (try clear hfz42_1); (try clear hfz42_2); (try clear hfz42_3); (try clear hfz42_4); (try clear hfz42_5); (try clear hfz42_6); (try clear hfz8_0); (try clear hfz8_1); (try clear hfz8_2); (try clear hfz8_3); (try clear hfz8_4); (try clear hfz8_5); (try clear hfz8_6); (try clear hx105_0); (try clear hx105_1); (try clear hx105_2); (try clear hx105_3); (try clear hx105_4); (try clear hx105_5); (try clear hx105_6); (try clear p1); (try clear p10); (try clear p105); (try clear p2); (try clear q1); (try clear q10); (try clear q105); (obtain ⟨x88_4, rfl, HA, HK4, BK101, HB⟩ := hrel)
              cases gk with
              | zero => exact absurd HA.out (by simp [impl_isField.l0])
              | succ k4 =>
               (have H := HA.out); clear HA; (simp only [impl_isField.l0] at H); (by_cases c43 : x88_4 < (l1_4.length : Int))
               ·rw [if_pos c43] at H
                (have c43b0 := decide_eq_true c43); clear c43; (by_cases c44 : 0 ≤ x88_4)
                ·rw [if_pos c44] at H
                 (have c44b0 := decide_eq_true c44); clear c44; (by_cases c45 : x88_4 < (l1_4.length : Int))
                 ·rw [if_pos c45] at H
                  (have c45b0 := decide_eq_true c45); clear c45; (replace H := obS H); (obtain ⟨t108, A46, H⟩ := H); (by_cases c47 : t108 = true)
                  ·subst c47
                   (rw [if_pos rfl] at H); (have c48b0 := eq_true (odt : 0 ≤ x88_4)); (by_cases c49 : x88_4 ≤ (l1_4.length : Int))
                   ·rw [if_pos c49] at H
                    (have c49b0 := eq_true c49); (have c49b1 := decide_eq_true c49); clear c49; (replace H := obS H); (obtain ⟨t110, A50, H⟩ := H); (by_cases c51 : t110 = true)
                    ·subst c51
                     (rw [if_pos rfl] at H); (obtain rfl := Option.some.inj H); (have p107 : 0 ≤ (x88_4 : Int) := odt); (have q107 : x88_4 < (l1_4.length : Int) := odt); (obtain ⟨ad107, e107, hx107_0⟩ := Kd.at_string HR1_4.out x88_4 p107 q107); (cases e107); (replace hx107_0 := hcI HB hx107_0); (replace p107 := eq_true p107); (replace q107 := eq_true q107); (go_wp2_with (first | ((with_reducible refine gate_callee (f := 103) rfl ?_); refine gL (some 94) Tryd.func103 #[.string (rdOf ByteArray.empty l1_4 x88_4)] ?_; (with_reducible refine (impl_isName.calls k4 (rdOf ByteArray.empty l1_4 x88_4) true _ A46.out).mono ?_); rintro e w' ⟨rfl, ⟨nd, rfl⟩⟩; refine ⟨_, rfl, ?_⟩; have hcz52_0 := cz BK101.out 0; have hcz52_1 := cz BK101.out 1; have hcz52_2 := cz BK101.out 2; have hcz52_3 := cz BK101.out 3; have hcz52_4 := cz BK101.out 4; have hcz52_5 := cz BK101.out 5; have hcz52_6 := cz BK101.out 6; have hfz52_0 := blk_frozen BK101.out 0; have hfz52_1 := blk_frozen BK101.out 1; have hfz52_2 := blk_frozen BK101.out 2; have hfz52_3 := blk_frozen BK101.out 3; have hfz52_4 := blk_frozen BK101.out 4; have hfz52_5 := blk_frozen BK101.out 5; have hfz52_6 := blk_frozen BK101.out 6; obtain ⟨i053, hi053, _, hsz53, _⟩ := info_parts info9; obtain ⟨hcut53, hA53, hC53⟩ := print_take_of (P := Tryd.prog) Value.string (⟨#[]⟩ : ByteArray) 51 9 .i64 Tryd.underlying51 hi053 hsz53 (some ad107) c1_4 l1_4 x88_4 odt odt HC1_4.out; have HR109 := Aside0.mk (Kd.C_of_reads (h1 := fun _ => rfl) (hA53 _ (Kd.reads_of_C HR1_4.out))); have HC109 := Aside0.mk hC53; clear hA53 hC53 hi053 hsz53) | (go_at_call 47; refine calls_of_args (args' := #[.slice (some ad107) (l1_4.take (x88_4 : Int).toNat).length c1_4, .string (rdOf ByteArray.empty l1_4 x88_4)]) (by first | (rw [show (l1_4.take (x88_4 : Int).toNat).length = x88_4.toNat from (by rw [List.length_take]; have h_ : (x88_4 : Int) ≤ (l1_4.length : Int) := odt; omega)] <;> rfl) | rfl) ?_; (with_reducible refine (slices_Contains_string_string.calls k4 _ _ (l1_4.take (x88_4 : Int).toNat) (rdOf ByteArray.empty l1_4 x88_4) true _ ?side1 ?side2 A50.out).mono ?_); (case side1 => exact Kd.C_below HR109.out (eI HB)); (case side2 => exact HC109.out); rintro e w' ⟨rfl, ⟨nd, rfl⟩⟩))); go_ret; (exact ⟨rfl, eI HB⟩)
                    ·replace c51 := Bool.eq_false_iff.mpr c51
                     subst c51; (rw [if_neg (show ¬ (false = true) by decide)] at H); (have H' := Aside0.mk H); clear H; (have p107 : 0 ≤ (x88_4 : Int) := odt); (have q107 : x88_4 < (l1_4.length : Int) := odt); (obtain ⟨ad107, e107, hx107_0⟩ := Kd.at_string HR1_4.out x88_4 p107 q107); (cases e107); (replace hx107_0 := hcI HB hx107_0); (replace p107 := eq_true p107); (replace q107 := eq_true q107); (go_wp2_with (first | ((with_reducible refine gate_callee (f := 103) rfl ?_); refine gL (some 94) Tryd.func103 #[.string (rdOf ByteArray.empty l1_4 x88_4)] ?_; (with_reducible refine (impl_isName.calls k4 (rdOf ByteArray.empty l1_4 x88_4) true _ A46.out).mono ?_); rintro e w' ⟨rfl, ⟨nd, rfl⟩⟩; refine ⟨_, rfl, ?_⟩; have hcz54_0 := cz BK101.out 0; have hcz54_1 := cz BK101.out 1; have hcz54_2 := cz BK101.out 2; have hcz54_3 := cz BK101.out 3; have hcz54_4 := cz BK101.out 4; have hcz54_5 := cz BK101.out 5; have hcz54_6 := cz BK101.out 6; have hfz54_0 := blk_frozen BK101.out 0; have hfz54_1 := blk_frozen BK101.out 1; have hfz54_2 := blk_frozen BK101.out 2; have hfz54_3 := blk_frozen BK101.out 3; have hfz54_4 := blk_frozen BK101.out 4; have hfz54_5 := blk_frozen BK101.out 5; have hfz54_6 := blk_frozen BK101.out 6; obtain ⟨i055, hi055, _, hsz55, _⟩ := info_parts info9; obtain ⟨hcut55, hA55, hC55⟩ := print_take_of (P := Tryd.prog) Value.string (⟨#[]⟩ : ByteArray) 51 9 .i64 Tryd.underlying51 hi055 hsz55 (some ad107) c1_4 l1_4 x88_4 odt odt HC1_4.out; have HR109 := Aside0.mk (Kd.C_of_reads (h1 := fun _ => rfl) (hA55 _ (Kd.reads_of_C HR1_4.out))); have HC109 := Aside0.mk hC55; clear hA55 hC55 hi055 hsz55) | (go_at_call 47; refine calls_of_args (args' := #[.slice (some ad107) (l1_4.take (x88_4 : Int).toNat).length c1_4, .string (rdOf ByteArray.empty l1_4 x88_4)]) (by first | (rw [show (l1_4.take (x88_4 : Int).toNat).length = x88_4.toNat from (by rw [List.length_take]; have h_ : (x88_4 : Int) ≤ (l1_4.length : Int) := odt; omega)] <;> rfl) | rfl) ?_; (with_reducible refine (slices_Contains_string_string.calls k4 _ _ (l1_4.take (x88_4 : Int).toNat) (rdOf ByteArray.empty l1_4 x88_4) false _ ?side1 ?side2 A50.out).mono ?_); (case side1 => exact Kd.C_below HR109.out (eI HB)); (case side2 => exact HC109.out); rintro e w' ⟨rfl, ⟨nd, rfl⟩⟩))); go_roundg k4
                     case measure => have := HJ2.out; have := HJ12.out; have := HJ23.out; have := HK4.out; omega
                     case rel => exact ⟨(wrap64 (x88_4 + 1)), (by first | rfl | (simp; done) | (simp [*]; done)), H', ⟨by have := HJ2.out; have := HJ12.out; have := HJ23.out; have := HK4.out; omega⟩, ⟨kI BK101⟩, ⟨eI HB⟩⟩
                   ·rw [if_neg c49] at H
                    exact absurd H (by simp)
                  ·replace c47 := Bool.eq_false_iff.mpr c47
                   subst c47; (rw [if_neg (show ¬ (false = true) by decide)] at H); (obtain rfl := Option.some.inj H); (have p107 : 0 ≤ (x88_4 : Int) := odt); (have q107 : x88_4 < (l1_4.length : Int) := odt); (obtain ⟨ad107, e107, hx107_0⟩ := Kd.at_string HR1_4.out x88_4 p107 q107); (cases e107); (replace hx107_0 := hcI HB hx107_0); (replace p107 := eq_true p107); (replace q107 := eq_true q107); (go_wp2_with (first | ((with_reducible refine gate_callee (f := 103) rfl ?_); refine gL (some 94) Tryd.func103 #[.string (rdOf ByteArray.empty l1_4 x88_4)] ?_; (with_reducible refine (impl_isName.calls k4 (rdOf ByteArray.empty l1_4 x88_4) false _ A46.out).mono ?_); rintro e w' ⟨rfl, ⟨nd, rfl⟩⟩; refine ⟨_, rfl, ?_⟩))); go_ret; (exact ⟨rfl, eI HB⟩)
                 ·rw [if_neg c45] at H
                  exact absurd H (by simp)
                ·rw [if_neg c44] at H
                 exact absurd H (by simp)
               ·rw [if_neg c43] at H
                (have c43b0 := decide_eq_false c43); clear c43; (replace H := obS H); (obtain ⟨t106, A56, H⟩ := H); (by_cases c57 : t106 = true)
                ·subst c57
                 (rw [if_pos rfl] at H); (by_cases c58 : a1_2 = 0)
                 ·rw [if_pos c58] at H
                  (have c58b0 : (a1_2 == 0) = true := beq_iff_eq.mpr c58); (have c58b1 : (a1_2 != 0) = false := bne_eq_false_iff_eq.mpr c58); clear c58; (obtain rfl := Option.some.inj H); (have hcz59_0 := cz BK101.out 0); (have hcz59_1 := cz BK101.out 1); (have hcz59_2 := cz BK101.out 2); (have hcz59_3 := cz BK101.out 3); (have hcz59_4 := cz BK101.out 4); (have hcz59_5 := cz BK101.out 5); (have hcz59_6 := cz BK101.out 6); (have hfz59_0 := blk_frozen BK101.out 0); (have hfz59_1 := blk_frozen BK101.out 1); (have hfz59_2 := blk_frozen BK101.out 2); (have hfz59_3 := blk_frozen BK101.out 3); (have hfz59_4 := blk_frozen BK101.out 4); (have hfz59_5 := blk_frozen BK101.out 5); (have hfz59_6 := blk_frozen BK101.out 6); (go_wp2_with (first | ((with_reducible refine gate_callee (f := 104) rfl ?_); refine gL (some 108) Tryd.func104 #[.int .i64 (l1_4.length : Int), .int .i64 1, .int .i64 6] ?_; (with_reducible refine (impl_within.calls (l1_4.length : Int) 1 6 true _ A56.out).mono ?_); rintro e w' ⟨rfl, ⟨nd, rfl⟩⟩; refine ⟨_, rfl, ?_⟩))); go_ret; (exact ⟨rfl, eI HB⟩)
                 ·rw [if_neg c58] at H
                  (have c58b0 : (a1_2 == 0) = false := beq_eq_false_iff_ne.mpr c58); (have c58b1 : (a1_2 != 0) = true := bne_iff_ne.mpr c58); (obtain rfl := Option.some.inj H); (have hcz60_0 := cz BK101.out 0); (have hcz60_1 := cz BK101.out 1); (have hcz60_2 := cz BK101.out 2); (have hcz60_3 := cz BK101.out 3); (have hcz60_4 := cz BK101.out 4); (have hcz60_5 := cz BK101.out 5); (have hcz60_6 := cz BK101.out 6); (have hfz60_0 := blk_frozen BK101.out 0); (have hfz60_1 := blk_frozen BK101.out 1); (have hfz60_2 := blk_frozen BK101.out 2); (have hfz60_3 := blk_frozen BK101.out 3); (have hfz60_4 := blk_frozen BK101.out 4); (have hfz60_5 := blk_frozen BK101.out 5); (have hfz60_6 := blk_frozen BK101.out 6); (go_wp2_with (first | ((with_reducible refine gate_callee (f := 104) rfl ?_); refine gL (some 108) Tryd.func104 #[.int .i64 (l1_4.length : Int), .int .i64 1, .int .i64 6] ?_; (with_reducible refine (impl_within.calls (l1_4.length : Int) 1 6 true _ A56.out).mono ?_); rintro e w' ⟨rfl, ⟨nd, rfl⟩⟩; refine ⟨_, rfl, ?_⟩))); go_ret; (exact ⟨rfl, eI HB⟩)
                ·replace c57 := Bool.eq_false_iff.mpr c57
                 subst c57; (rw [if_neg (show ¬ (false = true) by decide)] at H); (obtain rfl := Option.some.inj H); (have hcz61_0 := cz BK101.out 0); (have hcz61_1 := cz BK101.out 1); (have hcz61_2 := cz BK101.out 2); (have hcz61_3 := cz BK101.out 3); (have hcz61_4 := cz BK101.out 4); (have hcz61_5 := cz BK101.out 5); (have hcz61_6 := cz BK101.out 6); (have hfz61_0 := blk_frozen BK101.out 0); (have hfz61_1 := blk_frozen BK101.out 1); (have hfz61_2 := blk_frozen BK101.out 2); (have hfz61_3 := blk_frozen BK101.out 3); (have hfz61_4 := blk_frozen BK101.out 4); (have hfz61_5 := blk_frozen BK101.out 5); (have hfz61_6 := blk_frozen BK101.out 6); (go_wp2_with (first | ((with_reducible refine gate_callee (f := 104) rfl ?_); refine gL (some 108) Tryd.func104 #[.int .i64 (l1_4.length : Int), .int .i64 1, .int .i64 6] ?_; (with_reducible refine (impl_within.calls (l1_4.length : Int) 1 6 false _ A56.out).mono ?_); rintro e w' ⟨rfl, ⟨nd, rfl⟩⟩; refine ⟨_, rfl, ?_⟩))); go_ret; (exact ⟨rfl, eI HB⟩)
            ·rw [if_neg c41] at H
             (have c41b0 : (a1_1 == 3) = false := beq_eq_false_iff_ne.mpr c41); (have c41b1 : (a1_1 != 3) = true := bne_iff_ne.mpr c41); (by_cases c62 : a1_1 = 4)
             ·rw [if_pos c62] at H
              (have c62b0 : (a1_1 == 4) = true := beq_iff_eq.mpr c62); (have c62b1 : (a1_1 != 4) = false := bne_eq_false_iff_eq.mpr c62); clear c62; (by_cases c63 : a1_2 = 0)
              ·rw [if_pos c63] at H
               (have c63b0 : (a1_2 == 0) = true := beq_iff_eq.mpr c63); (have c63b1 : (a1_2 != 0) = false := bne_eq_false_iff_eq.mpr c63); clear c63; (obtain rfl := Option.some.inj H); (have hcz64_0 := cz BK101.out 0); (have hcz64_1 := cz BK101.out 1); (have hcz64_2 := cz BK101.out 2); (have hcz64_3 := cz BK101.out 3); (have hcz64_4 := cz BK101.out 4); (have hcz64_5 := cz BK101.out 5); (have hcz64_6 := cz BK101.out 6); (have hfz64_0 := blk_frozen BK101.out 0); (have hfz64_1 := blk_frozen BK101.out 1); (have hfz64_2 := blk_frozen BK101.out 2); (have hfz64_3 := blk_frozen BK101.out 3); (have hfz64_4 := blk_frozen BK101.out 4); (have hfz64_5 := blk_frozen BK101.out 5); (have hfz64_6 := blk_frozen BK101.out 6); (go_wp2); go_ret; (exact ⟨rfl, eI HB⟩)
              ·rw [if_neg c63] at H
               (have c63b0 : (a1_2 == 0) = false := beq_eq_false_iff_ne.mpr c63); (have c63b1 : (a1_2 != 0) = true := bne_iff_ne.mpr c63); (obtain rfl := Option.some.inj H); (have hcz65_0 := cz BK101.out 0); (have hcz65_1 := cz BK101.out 1); (have hcz65_2 := cz BK101.out 2); (have hcz65_3 := cz BK101.out 3); (have hcz65_4 := cz BK101.out 4); (have hcz65_5 := cz BK101.out 5); (have hcz65_6 := cz BK101.out 6); (have hfz65_0 := blk_frozen BK101.out 0); (have hfz65_1 := blk_frozen BK101.out 1); (have hfz65_2 := blk_frozen BK101.out 2); (have hfz65_3 := blk_frozen BK101.out 3); (have hfz65_4 := blk_frozen BK101.out 4); (have hfz65_5 := blk_frozen BK101.out 5); (have hfz65_6 := blk_frozen BK101.out 6); (go_wp2); go_ret; (exact ⟨rfl, eI HB⟩)
             ·rw [if_neg c62] at H
              (have c62b0 : (a1_1 == 4) = false := beq_eq_false_iff_ne.mpr c62); (have c62b1 : (a1_1 != 4) = true := bne_iff_ne.mpr c62); (obtain rfl := Option.some.inj H); (have hcz66_0 := cz BK101.out 0); (have hcz66_1 := cz BK101.out 1); (have hcz66_2 := cz BK101.out 2); (have hcz66_3 := cz BK101.out 3); (have hcz66_4 := cz BK101.out 4); (have hcz66_5 := cz BK101.out 5); (have hcz66_6 := cz BK101.out 6); (have hfz66_0 := blk_frozen BK101.out 0); (have hfz66_1 := blk_frozen BK101.out 1); (have hfz66_2 := blk_frozen BK101.out 2); (have hfz66_3 := blk_frozen BK101.out 3); (have hfz66_4 := blk_frozen BK101.out 4); (have hfz66_5 := blk_frozen BK101.out 5); (have hfz66_6 := blk_frozen BK101.out 6); (go_wp2); go_ret; (exact ⟨rfl, eI HB⟩)
/-! ### impl_IsValidForm: function 37 -/
def impl_IsValidForm.l0 : Nat → List (S69) → List (S69) → Int → Int → Option (Bool)
 | 0, _, _, _, _ => none
 | k + 1, x0, x5, x6, x7 => if x7 < x6 then (if 0 ≤ x7 then (if x7 < (x5.length : Int) then (if x7 ≤ (x0.length : Int) then ((impl_isField.f k (x0.take (x7 : Int).toNat) ((rd_T69 x5 x7).f0) ((rd_T69 x5 x7).f1) ((rd_T69 x5 x7).f2) ((rd_T69 x5 x7).f3) ((rd_T69 x5 x7).f4) ((rd_T69 x5 x7).f5) ((rd_T69 x5 x7).f6)).bind fun t107 => (if t107 = true then (impl_IsValidForm.l0 k x0 x5 x6 (wrap64 (x7 + 1))) else (some false))) else (none)) else (none)) else (none)) else (some (decide ((x0.length : Int) ≤ 10)))
def impl_IsValidForm.f (k : Nat) (l0 : List (S69)) : Option (Bool) := impl_IsValidForm.l0 k l0 l0 (l0.length : Int) 0
set_option maxHeartbeats 8000000 in
set_option maxRecDepth 100000 in
theorem impl_IsValidForm.calls (k : Nat) (A0 : Option Addr) (c0 : Nat) (l0 : List (S69)) (r : Bool) (w : World) (hr0 : Kd.C k69 w A0 l0.length l0) (hc0 : l0.length ≤ c0) (h : impl_IsValidForm.f k l0 = some r) :
  Calls Tryd.prog 37 #[.slice A0 l0.length c0] w fun e w' => e = .returned (.bool r) ∧ Below w.heap.size w w' := by
 (have hu69 := Tryd.underlying69); (have HR0 := Aside0.mk hr0); (have HC0 := Aside0.mk hc0); clear hr0 hc0; (have HB := Aside0.mk (Below.refl w.heap.size w)); (unfold impl_IsValidForm.f at h); (have H := h); clear h; (have H' := Aside0.mk H); clear H; (go_enter Tryd.func37, Tryd.ntmps37); (go_wp2); (go_loopg [7] k (fun kq v7 w' => ∃ (x7_1 : Int), v7 = .int .i64 x7_1 ∧ Aside0 (impl_IsValidForm.l0 kq l0 l0 (l0.length : Int) x7_1 = some r) ∧ Aside0 (kq ≤ k) ∧ Aside0 (Below w.heap.size w w')))
 case atStart => exact ⟨(0), (by first | rfl | (simp; done) | (simp [*]; done)), H', ⟨Nat.le_refl _⟩, ⟨eI HB⟩⟩
 case round =>
  (clear H'); (obtain ⟨x7_1, rfl, HA, HK1, HB⟩ := hrel)
  cases gk with
  | zero => exact absurd HA.out (by simp [impl_IsValidForm.l0])
  | succ k1 =>
   (have H := HA.out); clear HA; (simp only [impl_IsValidForm.l0] at H); (by_cases c2 : x7_1 < (l0.length : Int))
   ·rw [if_pos c2] at H
    (have c2b0 := decide_eq_true c2); clear c2; (by_cases c3 : 0 ≤ x7_1)
    ·rw [if_pos c3] at H
     (have c3b0 := decide_eq_true c3); clear c3; (by_cases c4 : x7_1 < (l0.length : Int))
     ·rw [if_pos c4] at H
      (have c4b0 := decide_eq_true c4); clear c4; (have c5b0 := eq_true (odt : 0 ≤ x7_1)); (by_cases c6 : x7_1 ≤ (l0.length : Int))
      ·rw [if_pos c6] at H
       (have c6b0 := eq_true c6); (have c6b1 := decide_eq_true c6); clear c6; (obtain ⟨y103, hy103⟩ : ∃ y_ : List (S69), y_ = (l0.take (x7_1 : Int).toNat) := ⟨_, rfl⟩); (replace H : ((impl_isField.f k1 y103 ((rd_T69 l0 x7_1).f0) ((rd_T69 l0 x7_1).f1) ((rd_T69 l0 x7_1).f2) ((rd_T69 l0 x7_1).f3) ((rd_T69 l0 x7_1).f4) ((rd_T69 l0 x7_1).f5) ((rd_T69 l0 x7_1).f6)).bind fun t107 => (if t107 = true then (impl_IsValidForm.l0 k1 l0 l0 (l0.length : Int) (wrap64 (x7_1 + 1))) else (some false))) = some r := by first | (rw [hy103]; with_reducible exact H) | (have H2_ := (Option.bind_some _ _).symm.trans H; rw [hy103]; with_reducible exact H2_) | (have H2_ := (Option.bind_some _ _).symm.trans H; with_reducible exact H2_) | with_reducible exact H | (rw [hy103]; exact H) | exact H); (have Ny103 := Aside0.mk hy103); clear hy103; (replace H := obS H); (obtain ⟨t107, A7, H⟩ := H); (by_cases c8 : t107 = true)
       ·subst c8
        (rw [if_pos rfl] at H); (have H' := Aside0.mk H); clear H; (have p101 : 0 ≤ (x7_1 : Int) := odt); (have q101 : x7_1 < (l0.length : Int) := odt); (obtain ⟨ad101, A101_4, c101_4, e101, hx101_0, hx101_1, hx101_2, hx101_3, hx101_4, hx101_5, hx101_6, hl101_4, hi101_4⟩ := at_T69 HR0.out x7_1 p101 q101); (cases e101); (replace hx101_0 := hcI HB hx101_0); (replace hx101_1 := hcI HB hx101_1); (replace hx101_2 := hcI HB hx101_2); (replace hx101_3 := hcI HB hx101_3); (replace hx101_4 := hcI HB hx101_4); (replace hx101_5 := hcI HB hx101_5); (replace hx101_6 := hcI HB hx101_6); (have HR101_4 := Aside0.mk hi101_4); (have HC101_4 := Aside0.mk hl101_4); clear hi101_4 hl101_4; (replace p101 := eq_true p101); (replace q101 := eq_true q101); (try go_wp2_with (first | ((with_reducible refine gate_dst (N := 4) rfl ?_); refine box_event ?hg (N := 4) ?hd (cs := #[.string (⟨#[]⟩ : ByteArray), .int .i64 0, .int .i64 0, .int .i64 0, .slice none 0 0, .bool false, .string (⟨#[]⟩ : ByteArray)]) (t := 69) ?hr ?_; (case hd => rfl); (case hg => rfl); (case hr => first | (go_simp; done) | (go_simp; rfl)); intro gb102 hg w9 hbox hb; have hB_ := zI hb HB; have n0_ := Aside0.mk (below_step hB_ hb); have n1_ := Aside0.mk (hbox); have n2_ := Aside0.mk (bx0 hg hB_); have n3_ := n2_; clear HB; have HB := n0_; have BK102 := n1_; have GW102 := n2_; have GE102 := n3_; clear n0_ n1_ n2_ n3_ hB_ hb hbox hg; have hcz10_0 := cz BK102.out 0; have hcz10_1 := cz BK102.out 1; have hcz10_2 := cz BK102.out 2; have hcz10_3 := cz BK102.out 3; have hcz10_4 := cz BK102.out 4; have hcz10_5 := cz BK102.out 5; have hcz10_6 := cz BK102.out 6; have hfz10_0 := blk_frozen BK102.out 0; have hfz10_1 := blk_frozen BK102.out 1; have hfz10_2 := blk_frozen BK102.out 2; have hfz10_3 := blk_frozen BK102.out 3; have hfz10_4 := blk_frozen BK102.out 4; have hfz10_5 := blk_frozen BK102.out 5; have hfz10_6 := blk_frozen BK102.out 6))); (have n0_ : Aside0 ((((((((w9.setCell ⟨gb102, 0, none⟩ (.string ((rd_T69 l0 x7_1).f0))).setCell ⟨gb102, 1, none⟩ (.int .i64 ((rd_T69 l0 x7_1).f1))).setCell ⟨gb102, 2, none⟩ (.int .i64 ((rd_T69 l0 x7_1).f2))).setCell ⟨gb102, 3, none⟩ (.int .i64 ((rd_T69 l0 x7_1).f3))).setCell ⟨gb102, 4, none⟩ (.slice A101_4 ((rd_T69 l0 x7_1).f4).length c101_4)).setCell ⟨gb102, 5, none⟩ (.bool ((rd_T69 l0 x7_1).f5))).setCell ⟨gb102, 6, none⟩ (.string ((rd_T69 l0 x7_1).f6))).heap[gb102]? = some (.cells #[.string ((rd_T69 l0 x7_1).f0), .int .i64 ((rd_T69 l0 x7_1).f1), .int .i64 ((rd_T69 l0 x7_1).f2), .int .i64 ((rd_T69 l0 x7_1).f3), .slice A101_4 ((rd_T69 l0 x7_1).f4).length c101_4, .bool ((rd_T69 l0 x7_1).f5), .string ((rd_T69 l0 x7_1).f6)] 69 (0, 0))) := ⟨by (with_reducible repeat (first | refine kN ?_ _ | refine kD ?_ | refine kA ?_ _)); refine blk_put (cs := #[.string ((rd_T69 l0 x7_1).f0), .int .i64 ((rd_T69 l0 x7_1).f1), .int .i64 ((rd_T69 l0 x7_1).f2), .int .i64 ((rd_T69 l0 x7_1).f3), .slice A101_4 ((rd_T69 l0 x7_1).f4).length c101_4, .bool ((rd_T69 l0 x7_1).f5), .string (⟨#[]⟩ : ByteArray)]) ?_ 6 _ rfl; (with_reducible repeat (first | refine kN ?_ _ | refine kD ?_ | refine kA ?_ _)); refine blk_put (cs := #[.string ((rd_T69 l0 x7_1).f0), .int .i64 ((rd_T69 l0 x7_1).f1), .int .i64 ((rd_T69 l0 x7_1).f2), .int .i64 ((rd_T69 l0 x7_1).f3), .slice A101_4 ((rd_T69 l0 x7_1).f4).length c101_4, .bool false, .string (⟨#[]⟩ : ByteArray)]) ?_ 5 _ rfl; (with_reducible repeat (first | refine kN ?_ _ | refine kD ?_ | refine kA ?_ _)); refine blk_put (cs := #[.string ((rd_T69 l0 x7_1).f0), .int .i64 ((rd_T69 l0 x7_1).f1), .int .i64 ((rd_T69 l0 x7_1).f2), .int .i64 ((rd_T69 l0 x7_1).f3), .slice none 0 0, .bool false, .string (⟨#[]⟩ : ByteArray)]) ?_ 4 _ rfl; (with_reducible repeat (first | refine kN ?_ _ | refine kD ?_ | refine kA ?_ _)); refine blk_put (cs := #[.string ((rd_T69 l0 x7_1).f0), .int .i64 ((rd_T69 l0 x7_1).f1), .int .i64 ((rd_T69 l0 x7_1).f2), .int .i64 0, .slice none 0 0, .bool false, .string (⟨#[]⟩ : ByteArray)]) ?_ 3 _ rfl; (with_reducible repeat (first | refine kN ?_ _ | refine kD ?_ | refine kA ?_ _)); refine blk_put (cs := #[.string ((rd_T69 l0 x7_1).f0), .int .i64 ((rd_T69 l0 x7_1).f1), .int .i64 0, .int .i64 0, .slice none 0 0, .bool false, .string (⟨#[]⟩ : ByteArray)]) ?_ 2 _ rfl; (with_reducible repeat (first | refine kN ?_ _ | refine kD ?_ | refine kA ?_ _)); refine blk_put (cs := #[.string ((rd_T69 l0 x7_1).f0), .int .i64 0, .int .i64 0, .int .i64 0, .slice none 0 0, .bool false, .string (⟨#[]⟩ : ByteArray)]) ?_ 1 _ rfl; (with_reducible repeat (first | refine kN ?_ _ | refine kD ?_ | refine kA ?_ _)); refine blk_put (cs := #[.string (⟨#[]⟩ : ByteArray), .int .i64 0, .int .i64 0, .int .i64 0, .slice none 0 0, .bool false, .string (⟨#[]⟩ : ByteArray)]) ?_ 0 _ rfl; (with_reducible repeat (first | refine kN ?_ _ | refine kD ?_ | refine kA ?_ _)); exact BK102.out⟩)
        (have n1_ : Aside0 (Below w.heap.size w (((((((w9.setCell ⟨gb102, 0, none⟩ (.string ((rd_T69 l0 x7_1).f0))).setCell ⟨gb102, 1, none⟩ (.int .i64 ((rd_T69 l0 x7_1).f1))).setCell ⟨gb102, 2, none⟩ (.int .i64 ((rd_T69 l0 x7_1).f2))).setCell ⟨gb102, 3, none⟩ (.int .i64 ((rd_T69 l0 x7_1).f3))).setCell ⟨gb102, 4, none⟩ (.slice A101_4 ((rd_T69 l0 x7_1).f4).length c101_4)).setCell ⟨gb102, 5, none⟩ (.bool ((rd_T69 l0 x7_1).f5))).setCell ⟨gb102, 6, none⟩ (.string ((rd_T69 l0 x7_1).f6)))) := ⟨by repeat (first | (with_reducible first | exact HB.out | apply bA | apply bN | apply bD | refine below_set ?_ GE102.out) | exact HB.out)⟩); ((try clear BK102)); ((try clear HB)); (generalize (((((((w9.setCell ⟨gb102, 0, none⟩ (.string ((rd_T69 l0 x7_1).f0))).setCell ⟨gb102, 1, none⟩ (.int .i64 ((rd_T69 l0 x7_1).f1))).setCell ⟨gb102, 2, none⟩ (.int .i64 ((rd_T69 l0 x7_1).f2))).setCell ⟨gb102, 3, none⟩ (.int .i64 ((rd_T69 l0 x7_1).f3))).setCell ⟨gb102, 4, none⟩ (.slice A101_4 ((rd_T69 l0 x7_1).f4).length c101_4)).setCell ⟨gb102, 5, none⟩ (.bool ((rd_T69 l0 x7_1).f5))).setCell ⟨gb102, 6, none⟩ (.string ((rd_T69 l0 x7_1).f6))) = w11 at n0_ n1_ ⊢); (have BK102 := n0_); (have HB := n1_); clear n0_ n1_; (have n0_ := Aside0.mk (blk_drew BK102.out)); (have n1_ := Aside0.mk (below_drew1 HB.out)); clear BK102 HB; (have BK102 := n0_); (have HB := n1_); clear n0_ n1_; (have q13 : (x7_1 : Int) ≤ ((l0.length : Int) : Int) := odt); (obtain ⟨i013, hi013, _, hsz13, _⟩ := info_parts info69); (have hroom13 : l0.length ≤ c0 := HC0.out); (have hC13 : Kd.C k69 _ (some ad101) l0.length l0 := HR0.out); (have hcut13 := cut_to (P := Tryd.prog) 26 69 .i64 Tryd.underlying26 hi013 (some ad101) l0.length c0 x7_1 odt q13 hroom13); (have hr13 := Kd.C_take (m := (x7_1 : Int).toNat) hC13 (by omega)); (have hy13 : y103.length = (x7_1 : Int).toNat := (by rw [Ny103.out, List.length_take]; omega)); (rw [← Ny103.out] at hr13); (rw [← hy13] at hcut13); (have HR106 := Aside0.mk hr13); (have HC106 := Aside0.mk (show y103.length ≤ c0 from by omega)); clear hr13 hC13 hroom13 hi013 hsz13; (have KY13 := Aside0.mk hy13); clear hy13; (replace q13 := eq_true q13); (refine start_ (n := 6) (S := fun w' => w'.cell? ⟨gb102, 0, none⟩ = some (.string ((rd_T69 l0 x7_1).f0)) ∧ w'.cell? ⟨gb102, 1, none⟩ = some (.int .i64 ((rd_T69 l0 x7_1).f1)) ∧ w'.cell? ⟨gb102, 2, none⟩ = some (.int .i64 ((rd_T69 l0 x7_1).f2)) ∧ w'.cell? ⟨gb102, 3, none⟩ = some (.int .i64 ((rd_T69 l0 x7_1).f3)) ∧ w'.cell? ⟨gb102, 4, none⟩ = some (.slice A101_4 ((rd_T69 l0 x7_1).f4).length c101_4) ∧ w'.cell? ⟨gb102, 5, none⟩ = some (.bool ((rd_T69 l0 x7_1).f5)) ∧ w'.cell? ⟨gb102, 6, none⟩ = some (.string ((rd_T69 l0 x7_1).f6))) (ds := []) (cn 6 0) (by kernel_rfl) rfl (by kernel_rfl) ⟨cz BK102.out 0, cz BK102.out 1, cz BK102.out 2, cz BK102.out 3, cz BK102.out 4, cz BK102.out 5, cz BK102.out 6⟩ (fun hHeld => ?_)); (generalize w11.drew = w12 at BK102 HB HR106 hHeld ⊢); (refine pure_ (i := 0) (N := some 12) (v := ?_) (a' := ?_) (cn 6 1) rfl rfl (by kernel_rfl) (fun _ _ _ h => h) (Or.inl ⟨by rfl, ?_⟩) ?_ ?_); rotate_left; (· intro w'; go_simp; with_reducible rfl); rotate_left; (· (simp only [Act.put, aS1, aS2, aS3, i64_w, i32_w]); rfl); (refine pure_ (i := 1) (N := some 13) (v := ?_) (a' := ?_) (cn 6 2) rfl rfl (by kernel_rfl) (fun _ _ _ h => h) (Or.inl ⟨by rfl, ?_⟩) ?_ ?_); rotate_left; (· intro w'; go_simp; with_reducible rfl); rotate_left; (· (simp only [Act.put, aS1, aS2, aS3, i64_w, i32_w]); rfl); (refine pure_ (i := 2) (N := some 14) (v := ?_) (a' := ?_) (cn 6 3) rfl rfl (by kernel_rfl) (fun _ _ _ h => h) (Or.inl ⟨by rfl, ?_⟩) ?_ ?_); rotate_left; (· intro w'; go_simp; with_reducible rfl); rotate_left; (· (simp only [Act.put, aS1, aS2, aS3, i64_w, i32_w]); rfl); (refine take_ (i := 3) (N := some 15) (v := ?_) (a' := ?_) (cn 6 4) rfl rfl (by kernel_rfl) (fun _ _ _ h => h) (Or.inl ⟨by rfl, ?_⟩) hHeld ?_ ?_); rotate_left; (· (rintro w' ⟨s0, s1, s2, s3, s4, s5, s6⟩); go_simp; with_reducible rfl); rotate_left; (· (simp only [Act.put, aS1, aS2, aS3, i64_w, i32_w]); rfl); (refine one_ (i := 4) (N := some 16) (cn 6 5) rfl rfl (by kernel_rfl) (by decide) (fun K hK => ?_)); (refine gG Tryd.func74 #[.slice (some ad101) y103.length c0, .agg #[.string ((rd_T69 l0 x7_1).f0), .int .i64 ((rd_T69 l0 x7_1).f1), .int .i64 ((rd_T69 l0 x7_1).f2), .int .i64 ((rd_T69 l0 x7_1).f3), .slice A101_4 ((rd_T69 l0 x7_1).f4).length c101_4, .bool ((rd_T69 l0 x7_1).f5), .string ((rd_T69 l0 x7_1).f6)]] ?_); (with_reducible refine (impl_isField.calls k1 _ _ y103 ((rd_T69 l0 x7_1).f0) ((rd_T69 l0 x7_1).f1) ((rd_T69 l0 x7_1).f2) ((rd_T69 l0 x7_1).f3) _ _ ((rd_T69 l0 x7_1).f4) ((rd_T69 l0 x7_1).f5) ((rd_T69 l0 x7_1).f6) true _ ?side1 ?side2 ?side3 ?side4 A7.out).mono ?_); ((case side1 => exact Kd.C_below HR106.out (eI HB))); ((case side2 => exact HC106.out)); ((case side3 => exact Kd.C_below HR101_4.out (eI HB))); ((case side4 => exact HC101_4.out)); (rintro e w14 ⟨rfl, hb⟩); (refine ⟨_, rfl, ?_⟩)
        (have n0_ := Aside0.mk (kbI hb BK102)); (have n1_ := Aside0.mk (sI hb HB)); clear BK102 HB; (have BK102 := n0_); (have HB := n1_); clear n0_ n1_; ((try clear hb)); ((try clear hb2)); ((try clear hk)); ((try clear hi)); (refine hK.out _ _ ⟨cz BK102.out 0, cz BK102.out 1, cz BK102.out 2, cz BK102.out 3, cz BK102.out 4, cz BK102.out 5, cz BK102.out 6⟩ (fun hHeld => ?_)); clear hK K; (refine nP (some 16) (h := ?_)); (refine pure_ (i := 5) (N := some 17) (v := ?_) (a' := ?_) (cn 6 6) rfl rfl (by kernel_rfl) (fun _ _ _ h => h) (Or.inl ⟨by rfl, ?_⟩) ?_ ?_); rotate_left; (· intro w'; go_simp; with_reducible rfl); rotate_left; (· (simp only [Act.put, aS1, aS2, aS3, i64_w, i32_w]); rfl); (refine done_ (by kernel_rfl) ?_); (try go_wp2); go_roundg k1
        case measure => have := HK1.out; omega
        case rel => exact ⟨(wrap64 (x7_1 + 1)), (by first | rfl | (simp; done) | (simp [*]; done)), H', ⟨by have := HK1.out; omega⟩, ⟨eI HB⟩⟩
       ·replace c8 := Bool.eq_false_iff.mpr c8
        subst c8; (rw [if_neg (show ¬ (false = true) by decide)] at H); (obtain rfl := Option.some.inj H); (have p101 : 0 ≤ (x7_1 : Int) := odt); (have q101 : x7_1 < (l0.length : Int) := odt); (obtain ⟨ad101, A101_4, c101_4, e101, hx101_0, hx101_1, hx101_2, hx101_3, hx101_4, hx101_5, hx101_6, hl101_4, hi101_4⟩ := at_T69 HR0.out x7_1 p101 q101); (cases e101); (replace hx101_0 := hcI HB hx101_0); (replace hx101_1 := hcI HB hx101_1); (replace hx101_2 := hcI HB hx101_2); (replace hx101_3 := hcI HB hx101_3); (replace hx101_4 := hcI HB hx101_4); (replace hx101_5 := hcI HB hx101_5); (replace hx101_6 := hcI HB hx101_6); (have HR101_4 := Aside0.mk hi101_4); (have HC101_4 := Aside0.mk hl101_4); clear hi101_4 hl101_4; (replace p101 := eq_true p101); (replace q101 := eq_true q101); (try go_wp2_with (first | ((with_reducible refine gate_dst (N := 4) rfl ?_); refine box_event ?hg (N := 4) ?hd (cs := #[.string (⟨#[]⟩ : ByteArray), .int .i64 0, .int .i64 0, .int .i64 0, .slice none 0 0, .bool false, .string (⟨#[]⟩ : ByteArray)]) (t := 69) ?hr ?_; (case hd => rfl); (case hg => rfl); (case hr => first | (go_simp; done) | (go_simp; rfl)); intro gb102 hg w15 hbox hb; have hB_ := zI hb HB; have n0_ := Aside0.mk (below_step hB_ hb); have n1_ := Aside0.mk (hbox); have n2_ := Aside0.mk (bx0 hg hB_); have n3_ := n2_; clear HB; have HB := n0_; have BK102 := n1_; have GW102 := n2_; have GE102 := n3_; clear n0_ n1_ n2_ n3_ hB_ hb hbox hg; have hcz16_0 := cz BK102.out 0; have hcz16_1 := cz BK102.out 1; have hcz16_2 := cz BK102.out 2; have hcz16_3 := cz BK102.out 3; have hcz16_4 := cz BK102.out 4; have hcz16_5 := cz BK102.out 5; have hcz16_6 := cz BK102.out 6; have hfz16_0 := blk_frozen BK102.out 0; have hfz16_1 := blk_frozen BK102.out 1; have hfz16_2 := blk_frozen BK102.out 2; have hfz16_3 := blk_frozen BK102.out 3; have hfz16_4 := blk_frozen BK102.out 4; have hfz16_5 := blk_frozen BK102.out 5; have hfz16_6 := blk_frozen BK102.out 6))); (have n0_ : Aside0 ((((((((w15.setCell ⟨gb102, 0, none⟩ (.string ((rd_T69 l0 x7_1).f0))).setCell ⟨gb102, 1, none⟩ (.int .i64 ((rd_T69 l0 x7_1).f1))).setCell ⟨gb102, 2, none⟩ (.int .i64 ((rd_T69 l0 x7_1).f2))).setCell ⟨gb102, 3, none⟩ (.int .i64 ((rd_T69 l0 x7_1).f3))).setCell ⟨gb102, 4, none⟩ (.slice A101_4 ((rd_T69 l0 x7_1).f4).length c101_4)).setCell ⟨gb102, 5, none⟩ (.bool ((rd_T69 l0 x7_1).f5))).setCell ⟨gb102, 6, none⟩ (.string ((rd_T69 l0 x7_1).f6))).heap[gb102]? = some (.cells #[.string ((rd_T69 l0 x7_1).f0), .int .i64 ((rd_T69 l0 x7_1).f1), .int .i64 ((rd_T69 l0 x7_1).f2), .int .i64 ((rd_T69 l0 x7_1).f3), .slice A101_4 ((rd_T69 l0 x7_1).f4).length c101_4, .bool ((rd_T69 l0 x7_1).f5), .string ((rd_T69 l0 x7_1).f6)] 69 (0, 0))) := ⟨by (with_reducible repeat (first | refine kN ?_ _ | refine kD ?_ | refine kA ?_ _)); refine blk_put (cs := #[.string ((rd_T69 l0 x7_1).f0), .int .i64 ((rd_T69 l0 x7_1).f1), .int .i64 ((rd_T69 l0 x7_1).f2), .int .i64 ((rd_T69 l0 x7_1).f3), .slice A101_4 ((rd_T69 l0 x7_1).f4).length c101_4, .bool ((rd_T69 l0 x7_1).f5), .string (⟨#[]⟩ : ByteArray)]) ?_ 6 _ rfl; (with_reducible repeat (first | refine kN ?_ _ | refine kD ?_ | refine kA ?_ _)); refine blk_put (cs := #[.string ((rd_T69 l0 x7_1).f0), .int .i64 ((rd_T69 l0 x7_1).f1), .int .i64 ((rd_T69 l0 x7_1).f2), .int .i64 ((rd_T69 l0 x7_1).f3), .slice A101_4 ((rd_T69 l0 x7_1).f4).length c101_4, .bool false, .string (⟨#[]⟩ : ByteArray)]) ?_ 5 _ rfl; (with_reducible repeat (first | refine kN ?_ _ | refine kD ?_ | refine kA ?_ _)); refine blk_put (cs := #[.string ((rd_T69 l0 x7_1).f0), .int .i64 ((rd_T69 l0 x7_1).f1), .int .i64 ((rd_T69 l0 x7_1).f2), .int .i64 ((rd_T69 l0 x7_1).f3), .slice none 0 0, .bool false, .string (⟨#[]⟩ : ByteArray)]) ?_ 4 _ rfl; (with_reducible repeat (first | refine kN ?_ _ | refine kD ?_ | refine kA ?_ _)); refine blk_put (cs := #[.string ((rd_T69 l0 x7_1).f0), .int .i64 ((rd_T69 l0 x7_1).f1), .int .i64 ((rd_T69 l0 x7_1).f2), .int .i64 0, .slice none 0 0, .bool false, .string (⟨#[]⟩ : ByteArray)]) ?_ 3 _ rfl; (with_reducible repeat (first | refine kN ?_ _ | refine kD ?_ | refine kA ?_ _)); refine blk_put (cs := #[.string ((rd_T69 l0 x7_1).f0), .int .i64 ((rd_T69 l0 x7_1).f1), .int .i64 0, .int .i64 0, .slice none 0 0, .bool false, .string (⟨#[]⟩ : ByteArray)]) ?_ 2 _ rfl; (with_reducible repeat (first | refine kN ?_ _ | refine kD ?_ | refine kA ?_ _)); refine blk_put (cs := #[.string ((rd_T69 l0 x7_1).f0), .int .i64 0, .int .i64 0, .int .i64 0, .slice none 0 0, .bool false, .string (⟨#[]⟩ : ByteArray)]) ?_ 1 _ rfl; (with_reducible repeat (first | refine kN ?_ _ | refine kD ?_ | refine kA ?_ _)); refine blk_put (cs := #[.string (⟨#[]⟩ : ByteArray), .int .i64 0, .int .i64 0, .int .i64 0, .slice none 0 0, .bool false, .string (⟨#[]⟩ : ByteArray)]) ?_ 0 _ rfl; (with_reducible repeat (first | refine kN ?_ _ | refine kD ?_ | refine kA ?_ _)); exact BK102.out⟩)
        (have n1_ : Aside0 (Below w.heap.size w (((((((w15.setCell ⟨gb102, 0, none⟩ (.string ((rd_T69 l0 x7_1).f0))).setCell ⟨gb102, 1, none⟩ (.int .i64 ((rd_T69 l0 x7_1).f1))).setCell ⟨gb102, 2, none⟩ (.int .i64 ((rd_T69 l0 x7_1).f2))).setCell ⟨gb102, 3, none⟩ (.int .i64 ((rd_T69 l0 x7_1).f3))).setCell ⟨gb102, 4, none⟩ (.slice A101_4 ((rd_T69 l0 x7_1).f4).length c101_4)).setCell ⟨gb102, 5, none⟩ (.bool ((rd_T69 l0 x7_1).f5))).setCell ⟨gb102, 6, none⟩ (.string ((rd_T69 l0 x7_1).f6)))) := ⟨by repeat (first | (with_reducible first | exact HB.out | apply bA | apply bN | apply bD | refine below_set ?_ GE102.out) | exact HB.out)⟩); ((try clear BK102)); ((try clear HB)); (generalize (((((((w15.setCell ⟨gb102, 0, none⟩ (.string ((rd_T69 l0 x7_1).f0))).setCell ⟨gb102, 1, none⟩ (.int .i64 ((rd_T69 l0 x7_1).f1))).setCell ⟨gb102, 2, none⟩ (.int .i64 ((rd_T69 l0 x7_1).f2))).setCell ⟨gb102, 3, none⟩ (.int .i64 ((rd_T69 l0 x7_1).f3))).setCell ⟨gb102, 4, none⟩ (.slice A101_4 ((rd_T69 l0 x7_1).f4).length c101_4)).setCell ⟨gb102, 5, none⟩ (.bool ((rd_T69 l0 x7_1).f5))).setCell ⟨gb102, 6, none⟩ (.string ((rd_T69 l0 x7_1).f6))) = w17 at n0_ n1_ ⊢); (have BK102 := n0_); (have HB := n1_); clear n0_ n1_; (have n0_ := Aside0.mk (blk_drew BK102.out)); (have n1_ := Aside0.mk (below_drew1 HB.out)); clear BK102 HB; (have BK102 := n0_); (have HB := n1_); clear n0_ n1_; (have q19 : (x7_1 : Int) ≤ ((l0.length : Int) : Int) := odt); (obtain ⟨i019, hi019, _, hsz19, _⟩ := info_parts info69); (have hroom19 : l0.length ≤ c0 := HC0.out); (have hC19 : Kd.C k69 _ (some ad101) l0.length l0 := HR0.out); (have hcut19 := cut_to (P := Tryd.prog) 26 69 .i64 Tryd.underlying26 hi019 (some ad101) l0.length c0 x7_1 odt q19 hroom19); (have hr19 := Kd.C_take (m := (x7_1 : Int).toNat) hC19 (by omega)); (have hy19 : y103.length = (x7_1 : Int).toNat := (by rw [Ny103.out, List.length_take]; omega)); (rw [← Ny103.out] at hr19); (rw [← hy19] at hcut19); (have HR106 := Aside0.mk hr19); (have HC106 := Aside0.mk (show y103.length ≤ c0 from by omega)); clear hr19 hC19 hroom19 hi019 hsz19; (have KY19 := Aside0.mk hy19); clear hy19; (replace q19 := eq_true q19); (refine start_ (n := 6) (S := fun w' => w'.cell? ⟨gb102, 0, none⟩ = some (.string ((rd_T69 l0 x7_1).f0)) ∧ w'.cell? ⟨gb102, 1, none⟩ = some (.int .i64 ((rd_T69 l0 x7_1).f1)) ∧ w'.cell? ⟨gb102, 2, none⟩ = some (.int .i64 ((rd_T69 l0 x7_1).f2)) ∧ w'.cell? ⟨gb102, 3, none⟩ = some (.int .i64 ((rd_T69 l0 x7_1).f3)) ∧ w'.cell? ⟨gb102, 4, none⟩ = some (.slice A101_4 ((rd_T69 l0 x7_1).f4).length c101_4) ∧ w'.cell? ⟨gb102, 5, none⟩ = some (.bool ((rd_T69 l0 x7_1).f5)) ∧ w'.cell? ⟨gb102, 6, none⟩ = some (.string ((rd_T69 l0 x7_1).f6))) (ds := []) (cn 6 0) (by kernel_rfl) rfl (by kernel_rfl) ⟨cz BK102.out 0, cz BK102.out 1, cz BK102.out 2, cz BK102.out 3, cz BK102.out 4, cz BK102.out 5, cz BK102.out 6⟩ (fun hHeld => ?_)); (generalize w17.drew = w18 at BK102 HB HR106 hHeld ⊢); (refine pure_ (i := 0) (N := some 12) (v := ?_) (a' := ?_) (cn 6 1) rfl rfl (by kernel_rfl) (fun _ _ _ h => h) (Or.inl ⟨by rfl, ?_⟩) ?_ ?_); rotate_left; (· intro w'; go_simp; with_reducible rfl); rotate_left; (· (simp only [Act.put, aS1, aS2, aS3, i64_w, i32_w]); rfl); (refine pure_ (i := 1) (N := some 13) (v := ?_) (a' := ?_) (cn 6 2) rfl rfl (by kernel_rfl) (fun _ _ _ h => h) (Or.inl ⟨by rfl, ?_⟩) ?_ ?_); rotate_left; (· intro w'; go_simp; with_reducible rfl); rotate_left; (· (simp only [Act.put, aS1, aS2, aS3, i64_w, i32_w]); rfl); (refine pure_ (i := 2) (N := some 14) (v := ?_) (a' := ?_) (cn 6 3) rfl rfl (by kernel_rfl) (fun _ _ _ h => h) (Or.inl ⟨by rfl, ?_⟩) ?_ ?_); rotate_left; (· intro w'; go_simp; with_reducible rfl); rotate_left; (· (simp only [Act.put, aS1, aS2, aS3, i64_w, i32_w]); rfl); (refine take_ (i := 3) (N := some 15) (v := ?_) (a' := ?_) (cn 6 4) rfl rfl (by kernel_rfl) (fun _ _ _ h => h) (Or.inl ⟨by rfl, ?_⟩) hHeld ?_ ?_); rotate_left; (· (rintro w' ⟨s0, s1, s2, s3, s4, s5, s6⟩); go_simp; with_reducible rfl); rotate_left; (· (simp only [Act.put, aS1, aS2, aS3, i64_w, i32_w]); rfl); (refine one_ (i := 4) (N := some 16) (cn 6 5) rfl rfl (by kernel_rfl) (by decide) (fun K hK => ?_)); (refine gG Tryd.func74 #[.slice (some ad101) y103.length c0, .agg #[.string ((rd_T69 l0 x7_1).f0), .int .i64 ((rd_T69 l0 x7_1).f1), .int .i64 ((rd_T69 l0 x7_1).f2), .int .i64 ((rd_T69 l0 x7_1).f3), .slice A101_4 ((rd_T69 l0 x7_1).f4).length c101_4, .bool ((rd_T69 l0 x7_1).f5), .string ((rd_T69 l0 x7_1).f6)]] ?_); (with_reducible refine (impl_isField.calls k1 _ _ y103 ((rd_T69 l0 x7_1).f0) ((rd_T69 l0 x7_1).f1) ((rd_T69 l0 x7_1).f2) ((rd_T69 l0 x7_1).f3) _ _ ((rd_T69 l0 x7_1).f4) ((rd_T69 l0 x7_1).f5) ((rd_T69 l0 x7_1).f6) false _ ?side1 ?side2 ?side3 ?side4 A7.out).mono ?_); ((case side1 => exact Kd.C_below HR106.out (eI HB))); ((case side2 => exact HC106.out)); ((case side3 => exact Kd.C_below HR101_4.out (eI HB))); ((case side4 => exact HC101_4.out)); (rintro e w20 ⟨rfl, hb⟩); (refine ⟨_, rfl, ?_⟩)
        (have n0_ := Aside0.mk (kbI hb BK102)); (have n1_ := Aside0.mk (sI hb HB)); clear BK102 HB; (have BK102 := n0_); (have HB := n1_); clear n0_ n1_; ((try clear hb)); ((try clear hb2)); ((try clear hk)); ((try clear hi)); (refine hK.out _ _ ⟨cz BK102.out 0, cz BK102.out 1, cz BK102.out 2, cz BK102.out 3, cz BK102.out 4, cz BK102.out 5, cz BK102.out 6⟩ (fun hHeld => ?_)); clear hK K; (refine nP (some 16) (h := ?_)); (refine pure_ (i := 5) (N := some 17) (v := ?_) (a' := ?_) (cn 6 6) rfl rfl (by kernel_rfl) (fun _ _ _ h => h) (Or.inl ⟨by rfl, ?_⟩) ?_ ?_); rotate_left; (· intro w'; go_simp; with_reducible rfl); rotate_left; (· (simp only [Act.put, aS1, aS2, aS3, i64_w, i32_w]); rfl); (refine done_ (by kernel_rfl) ?_); (try go_wp2); go_ret; (exact ⟨rfl, eI HB⟩)
      ·rw [if_neg c6] at H
       exact absurd H (by simp)
     ·rw [if_neg c4] at H
      exact absurd H (by simp)
    ·rw [if_neg c3] at H
     exact absurd H (by simp)
   ·rw [if_neg c2] at H
    (have c2b0 := decide_eq_false c2); clear c2; (obtain rfl := Option.some.inj H); (go_wp2); go_ret; (exact ⟨rfl, eI HB⟩)

end Go.Proofs.YtdogpphfofimeaaDoor.X
namespace Go.Proofs
open Go.Shelf
def Tryd.lays156_ren : Go.Shelf.Ren := ⟨fun | 156 => 86 | 165 => 111 | 166 => 112 | 169 => 113 | 240 => 121 | 241 => 122 | 276 => 133 | 277 => 134 | n => n, fun | 31 => 51 | 9 => 9 | 3 => 3 | 4 => 4 | 0 => 0 | 20 => 20 | 72 => 121 | 76 => 125 | 70 => 119 | 37 => 45 | 75 => 124 | 127 => 132 | 164 => 144 | 5 => 5 | 80 => 127 | n => n, fun | n => n⟩
theorem Tryd.lays156 : Go.Proofs.Lays.n156 Tryd.prog Tryd.lays156_ren := {
  mixed := by kernel_rfl
  f156 := Tryd.func86.trans (congrArg some (by kernel_rfl))
  f165 := Tryd.func111.trans (congrArg some (by kernel_rfl))
  f166 := Tryd.func112.trans (congrArg some (by kernel_rfl))
  f169 := Tryd.func113.trans (congrArg some (by kernel_rfl))
  f240 := Tryd.func121.trans (congrArg some (by kernel_rfl))
  f241 := Tryd.func122.trans (congrArg some (by kernel_rfl))
  f276 := Tryd.func133.trans (congrArg some (by kernel_rfl))
  f277 := Tryd.func134.trans (congrArg some (by kernel_rfl))
  t0 := Tryd.underlying0
  a0 := Tryd.isAgg0
  z0 := Tryd.sizeOf0
  v0 := Tryd.zeroValue0
  t3 := Tryd.underlying3
  a3 := Tryd.isAgg3
  z3 := Tryd.sizeOf3
  v3 := Tryd.zeroValue3
  t4 := Tryd.underlying4
  a4 := Tryd.isAgg4
  z4 := Tryd.sizeOf4
  v4 := Tryd.zeroValue4
  t9 := Tryd.underlying9
  a9 := Tryd.isAgg9
  z9 := Tryd.sizeOf9
  v9 := Tryd.zeroValue9
  t20 := Tryd.underlying20
  a20 := Tryd.isAgg20
  z20 := Tryd.sizeOf20
  v20 := Tryd.zeroValue20
  t31 := Tryd.underlying51
  a31 := Tryd.isAgg51
  z31 := Tryd.sizeOf51
  v31 := Tryd.zeroValue51
  t37 := Tryd.underlying45
  a37 := Tryd.isAgg45
  z37 := Tryd.sizeOf45
  v37 := Tryd.zeroValue45
  t70 := Tryd.underlying119
  a70 := Tryd.isAgg119
  z70 := Tryd.sizeOf119
  v70 := Tryd.zeroValue119
  t72 := Tryd.underlying121
  a72 := Tryd.isAgg121
  z72 := Tryd.sizeOf121
  v72 := Tryd.zeroValue121
  t75 := Tryd.underlying124
  a75 := Tryd.isAgg124
  z75 := Tryd.sizeOf124
  v75 := Tryd.zeroValue124
  t76 := Tryd.underlying125
  a76 := Tryd.isAgg125
  z76 := Tryd.sizeOf125
  v76 := Tryd.zeroValue125
  t127 := Tryd.underlying132
  a127 := Tryd.isAgg132
  z127 := Tryd.sizeOf132
  v127 := Tryd.zeroValue132
  t164 := Tryd.underlying144
  a164 := Tryd.isAgg144
  z164 := Tryd.sizeOf144
  v164 := Tryd.zeroValue144 }
theorem Tryd.Builder_Extra_156 : Builder.Extra Tryd.prog Tryd.lays156_ren := {
  sizeBuilder := by kernel_rfl
  liesBuilder := by kernel_rfl
  t5 := Tryd.underlying5
  a5 := Tryd.isAgg5
  z5 := Tryd.sizeOf5
  v5 := Tryd.zeroValue5
  infoByte := by kernel_rfl
  cellsByte := by kernel_rfl
  sizeByte := by kernel_rfl
  neB5 := by decide }
open Go.RowKit in
/-- No element: the empty string; the world is as it was. (Whatever the slice's address and capacity: a nil slice too.) (LAID: no walk: one application.) -/
theorem Tryd.strings_Join_none (a : Option Addr) (c : Nat) (sep : ByteArray) (w : World) :
    Calls Tryd.prog 86 #[.slice a 0 c, .string sep] w fun e w' => e = .returned (.string ⟨#[]⟩) ∧ w' = w := Any.strings_Join_none Tryd.lays156 Tryd.Builder_Extra_156 a c sep w
open Go.RowKit in
/-- strings.Join: "Join concatenates the elements of its first argument to create a single string. The separator string sep is placed between elements in the resulting string.": HOWEVER MANY ELEMENTS. Below the heap's end the world is as it was. (LAID: no walk: one application.) -/
theorem Tryd.strings_Join (bk o c : Nat) (xs : List ByteArray) (sep : ByteArray) (w : World) (hcells : ∀ (j : Nat) x, xs[j]? = some x → w.cell? ⟨bk, o + j, none⟩ = some (.string x)) (hbk : bk < w.heap.size) (hN : xs.length ≤ 140737488355328) (hcap : xs.length ≤ c) (hlen : (Lib.join (xs.map (·.data.toList)) sep.data.toList).length ≤ 140737488355328) :
    Calls Tryd.prog 86 #[.slice (some ⟨bk, o, none⟩) xs.length c, .string sep] w fun e w' => e = .returned (.string ⟨(Lib.join (xs.map (·.data.toList)) sep.data.toList).toArray⟩) ∧ Below w.heap.size w w' := Any.strings_Join Tryd.lays156 Tryd.Builder_Extra_156 bk o c xs sep w hcells hbk hN hcap hlen
def Tryd.laysM171_ren : Go.Shelf.Ren := ⟨fun | 171 => 85 | 243 => 110 | 246 => 120 | 283 => 129 | 284 => 130 | 285 => 131 | 286 => 132 | 129 => 146 | 317 => 145 | 318 => 147 | 319 => 148 | 320 => 149 | 337 => 155 | 338 => 156 | n => n, fun | 3 => 3 | 9 => 9 | 2 => 2 | 4 => 4 | 171 => 139 | 0 => 0 | 53 => 85 | 37 => 45 | 5 => 5 | 173 => 142 | 212 => 154 | 51 => 155 | 20 => 20 | 213 => 156 | 46 => 133 | 232 => 175 | 233 => 176 | n => n, fun | 17 => 1 | 18 => 6 | 19 => 7 | n => n⟩
theorem Tryd.laysM171 : Go.Proofs.LaysM.n171 Tryd.prog Tryd.laysM171_ren := {
  mixed := by kernel_rfl
  f129 := Tryd.func146.trans (congrArg some (by kernel_rfl))
  f171 := Tryd.func85.trans (congrArg some (by kernel_rfl))
  f243 := Tryd.func110.trans (congrArg some (by kernel_rfl))
  f246 := Tryd.func120.trans (congrArg some (by kernel_rfl))
  f283 := Tryd.func129.trans (congrArg some (by kernel_rfl))
  f284 := Tryd.func130.trans (congrArg some (by kernel_rfl))
  f285 := Tryd.func131.trans (congrArg some (by kernel_rfl))
  f286 := Tryd.func132.trans (congrArg some (by kernel_rfl))
  f317 := Tryd.func145.trans (congrArg some (by kernel_rfl))
  f318 := Tryd.func147.trans (congrArg some (by kernel_rfl))
  f319 := Tryd.func148.trans (congrArg some (by kernel_rfl))
  f320 := Tryd.func149.trans (congrArg some (by kernel_rfl))
  f337 := Tryd.func155.trans (congrArg some (by kernel_rfl))
  f338 := Tryd.func156.trans (congrArg some (by kernel_rfl))
  t0 := Tryd.underlying0
  a0 := Tryd.isAgg0
  z0 := Tryd.sizeOf0
  v0 := Tryd.zeroValue0
  t2 := Tryd.underlying2
  a2 := Tryd.isAgg2
  z2 := Tryd.sizeOf2
  v2 := Tryd.zeroValue2
  t3 := Tryd.underlying3
  a3 := Tryd.isAgg3
  z3 := Tryd.sizeOf3
  v3 := Tryd.zeroValue3
  t4 := Tryd.underlying4
  a4 := Tryd.isAgg4
  z4 := Tryd.sizeOf4
  v4 := Tryd.zeroValue4
  t5 := Tryd.underlying5
  a5 := Tryd.isAgg5
  z5 := Tryd.sizeOf5
  v5 := Tryd.zeroValue5
  t9 := Tryd.underlying9
  a9 := Tryd.isAgg9
  z9 := Tryd.sizeOf9
  v9 := Tryd.zeroValue9
  t20 := Tryd.underlying20
  a20 := Tryd.isAgg20
  z20 := Tryd.sizeOf20
  v20 := Tryd.zeroValue20
  t37 := Tryd.underlying45
  a37 := Tryd.isAgg45
  z37 := Tryd.sizeOf45
  v37 := Tryd.zeroValue45
  t46 := Tryd.underlying133
  a46 := Tryd.isAgg133
  z46 := Tryd.sizeOf133
  v46 := Tryd.zeroValue133
  t51 := Tryd.underlying155
  a51 := Tryd.isAgg155
  z51 := Tryd.sizeOf155
  v51 := Tryd.zeroValue155
  t53 := Tryd.underlying85
  a53 := Tryd.isAgg85
  z53 := Tryd.sizeOf85
  v53 := Tryd.zeroValue85
  t171 := Tryd.underlying139
  a171 := Tryd.isAgg139
  z171 := Tryd.sizeOf139
  v171 := Tryd.zeroValue139
  t173 := Tryd.underlying142
  a173 := Tryd.isAgg142
  z173 := Tryd.sizeOf142
  v173 := Tryd.zeroValue142
  t212 := Tryd.underlying154
  a212 := Tryd.isAgg154
  z212 := Tryd.sizeOf154
  v212 := Tryd.zeroValue154
  t213 := Tryd.underlying156
  a213 := Tryd.isAgg156
  z213 := Tryd.sizeOf156
  t232 := Tryd.underlying175
  a232 := Tryd.isAgg175
  z232 := Tryd.sizeOf175
  v232 := Tryd.zeroValue175
  t233 := Tryd.underlying176
  a233 := Tryd.isAgg176
  z233 := Tryd.sizeOf176
  v233 := Tryd.zeroValue176
  g17 := by kernel_rfl
  g18 := by kernel_rfl
  g19 := by kernel_rfl
  i0 := by kernel_rfl
  i2 := by kernel_rfl
  i3 := by kernel_rfl
  i4 := by kernel_rfl
  i5 := by kernel_rfl
  i9 := by kernel_rfl
  i20 := by kernel_rfl
  i37 := by kernel_rfl
  i46 := by kernel_rfl
  i51 := by kernel_rfl
  i53 := by kernel_rfl
  i171 := by kernel_rfl
  i173 := by kernel_rfl
  i212 := by kernel_rfl
  i232 := by kernel_rfl
  i233 := by kernel_rfl
  m17 := by kernel_rfl
  m18 := by kernel_rfl
  m19 := by kernel_rfl }
open Go.RowKit Go.Sort Go.Lib in
/-- strconv.Itoa: "Itoa is equivalent to FormatInt(int64(i), 10).": i's DECIMAL NUMERAL ('Lib.itoa': a '-' where i is negative, then the digits), FOR EVERY int. The world behind the call: the world before it, new blocks behind the heap (the library's 'var a [24]byte'), draws. (LAID: no walk: one application.) -/
theorem Tryd.strconv_Itoa (n : Int) (h0 : -9223372036854775808 ≤ n) (h1 : n ≤ 9223372036854775807) (w : World) (htab : Lib.TabIs Tryd.prog w "internal/strconv.uint64pow10" .u64 Lib.pow10Tab) :
    Calls Tryd.prog 85 #[.int .i64 n] w fun e w' => e = .returned (.string ⟨(Lib.itoa n).toArray⟩) ∧ ∃ k os, w' = grow (w.drewN k) os := Any.strconv_Itoa Tryd.laysM171 n h0 h1 w htab
end Go.Proofs
namespace Go.Proofs.YtdogpphfofimeaaDoor.X
open Go.RowKit Go.Proofs.YtdogpphfofimeaaDoorW.PrintWords Go.Proofs.YtdogpphfofimeaaDoorW.PrintLast Go.Proofs.YtdogpphfofimeaaDoorW.PrintMore Go.Proofs.YtdogpphfofimeaaDoor.E
attribute [local go_sem] max2_int min2_int max_two min_two max_three min_three max_four min_four   -- for this text's walks alone
set_option linter.unusedVariables false
set_option linter.unusedSimpArgs false
attribute [-simp] ByteArray.size_append ByteArray.size_extract
attribute [-go_sem] ByteArray.size_append'

/-! ### strconv_Itoa: function 85 -/
def strconv_Itoa.f (a0 : Int) : Option ByteArray := if -9223372036854775808 ≤ a0 ∧ a0 ≤ 9223372036854775807 then some ⟨(Lib.itoa a0).toArray⟩ else none
theorem strconv_Itoa.calls (a0 : Int) (r : ByteArray) (w : World) (hG : GT w) (h : strconv_Itoa.f a0 = some r) :
  Calls Tryd.prog 85 #[.int .i64 a0] w fun e w' => e = .returned (.string r) ∧ Below w.heap.size w w' := by
 (unfold strconv_Itoa.f at h); (split at h); (· (rename_i hc); (cases h); (refine (Tryd.strconv_Itoa a0 hc.1 hc.2 w hG).mono ?_); (rintro e w' ⟨rfl, k, os, rfl⟩); (exact ⟨rfl, Lib.below_grow _ _ (Nat.le_refl _) _ _⟩)); (· (cases h))
/-! ### strings_Join: function 86 -/
def strings_Join.f (l0 : List ByteArray) (a1 : ByteArray) : Option ByteArray := if (Lib.join (l0.map (·.data.toList)) a1.data.toList).length ≤ 140737488355328 ∧ l0.length ≤ 140737488355328 then some ⟨(Lib.join (l0.map (·.data.toList)) a1.data.toList).toArray⟩ else none
theorem strings_Join.calls (A0 : Option Addr) (c0 : Nat) (l0 : List ByteArray) (a1 : ByteArray) (r : ByteArray) (w : World) (hr0 : Kd.C Kd.string w A0 l0.length l0) (hc0 : l0.length ≤ c0) (h : strings_Join.f l0 a1 = some r) :
  Calls Tryd.prog 86 #[.slice A0 l0.length c0, .string a1] w fun e w' => e = .returned (.string r) ∧ Below w.heap.size w w' := by
 (unfold strings_Join.f at h); (split at h)
 case isFalse => cases h
 (rename_i hb); (obtain rfl := Option.some.inj h)
 cases l0 with
 | nil => exact (Tryd.strings_Join_none A0 c0 a1 w).mono fun e w' ⟨he, hw⟩ => ⟨he, hw ▸ Below.refl _ _⟩
 | cons x l =>
  obtain ⟨ad, rfl, hx⟩ := Kd.at_string hr0 (0 : Int) (Int.le_refl _) (by rw [List.length_cons]; omega)
  have hsp : ∃ b o, ad = ⟨b, o, none⟩ := by
   (rw [show ((0 : Int)).toNat = 0 from rfl, Addr.add_zero'] at hx); (obtain ⟨b, o, s⟩ := ad)
   cases s with
   | none => exact ⟨b, o, rfl⟩
   | some s =>
    (unfold World.cell? at hx); (split at hx <;> simp at hx)
  obtain ⟨b, o, rfl⟩ := hsp
  have hcell : ∀ (j : Nat) y, (x :: l)[j]? = some y → w.cell? ⟨b, o + j, none⟩ = some (.string y) := by
   intro j y hy; (have hj : j < (x :: l).length := (List.getElem?_eq_some_iff.1 hy).1); (obtain ⟨ad', e, hx'⟩ := Kd.at_string hr0 (j : Int) (by omega) (by omega)); (injection e with e); subst e; (rw [Int.toNat_natCast] at hx'); (have e1 : (⟨b, o, none⟩ : Addr).add j = ⟨b, o + j, none⟩ := by unfold Addr.add; split <;> simp_all); (rw [e1] at hx'); (rw [hx']); (unfold rdOf); (rw [Int.toNat_natCast, List.getD_eq_getElem?_getD, hy]); rfl
  exact Tryd.strings_Join b o c0 (x :: l) a1 w hcell (by have := hcell 0 x rfl; exact bltc w _ this) hb.2 hc0 hb.1

end Go.Proofs.YtdogpphfofimeaaDoor.X
namespace Go.Proofs.YtdogpphfofimeaaDoor.X
open Go.RowKit Go.Proofs.YtdogpphfofimeaaDoorW.PrintWords Go.Proofs.YtdogpphfofimeaaDoorW.PrintLast Go.Proofs.YtdogpphfofimeaaDoorW.PrintMore
attribute [local go_sem] max2_int min2_int max_two min_two max_three min_three max_four min_four   -- for this text's walks alone
set_option linter.unusedVariables false
set_option linter.unusedSimpArgs false
attribute [-simp] ByteArray.size_append ByteArray.size_extract
attribute [-go_sem] ByteArray.size_append'

/-! ### impl_fieldLine: function 48 -/
def impl_fieldLine.j0 : Nat → List ByteArray → ByteArray → Int → Int → Int → List ByteArray → Bool → ByteArray → Option (ByteArray)
 | 0, _, _, _, _, _, _, _, _ => none
 | k + 1, x3, x102000, x102001, x102002, x102003, x102004, x102005, x102006 => if x102005 = true then (if x3.length < 8796093022208 then ((some (x3 ++ [(⟨#[110, 101, 101, 100, 101, 100]⟩ : ByteArray)] : List ByteArray)).bind fun y130 => (if x102006.toList = ([] : List UInt8) then ((strings_Join.f y130 (⟨#[32]⟩ : ByteArray)).bind fun t133 => (some t133)) else ((some (([(⟨#[105, 102]⟩ : ByteArray), x102006] : List ByteArray) : List ByteArray)).bind fun y134 => (if y130.length + y134.length < 8796093022208 then ((strings_Join.f (y130 ++ y134) (⟨#[32]⟩ : ByteArray)).bind fun t140 => (some t140)) else (none))))) else (none)) else (if x102006.toList = ([] : List UInt8) then ((strings_Join.f x3 (⟨#[32]⟩ : ByteArray)).bind fun t141 => (some t141)) else ((some (([(⟨#[105, 102]⟩ : ByteArray), x102006] : List ByteArray) : List ByteArray)).bind fun y142 => (if x3.length + y142.length < 8796093022208 then ((strings_Join.f (x3 ++ y142) (⟨#[32]⟩ : ByteArray)).bind fun t148 => (some t148)) else (none))))
def impl_fieldLine.f (k : Nat) (a0_0 : ByteArray) (a0_1 : Int) (a0_2 : Int) (a0_3 : Int) (l0_4 : List ByteArray) (a0_5 : Bool) (a0_6 : ByteArray) : Option (ByteArray) := (some (([a0_0] : List ByteArray) : List ByteArray)).bind fun y102 => (if a0_1 = 1 then ((strconv_Itoa.f a0_2).bind fun t105 => ((strconv_Itoa.f a0_3).bind fun t106 => ((some (([(⟨#[110, 117, 109, 98, 101, 114]⟩ : ByteArray), t105, t106] : List ByteArray) : List ByteArray)).bind fun y107 => (if y102.length + y107.length < 8796093022208 then (impl_fieldLine.j0 k (y102 ++ y107) a0_0 a0_1 a0_2 a0_3 l0_4 a0_5 a0_6) else (none))))) else (if a0_1 = 2 then ((strconv_Itoa.f a0_2).bind fun t113 => ((strconv_Itoa.f a0_3).bind fun t114 => ((some (([(⟨#[116, 101, 120, 116]⟩ : ByteArray), t113, t114] : List ByteArray) : List ByteArray)).bind fun y115 => (if y102.length + y115.length < 8796093022208 then (impl_fieldLine.j0 k (y102 ++ y115) a0_0 a0_1 a0_2 a0_3 l0_4 a0_5 a0_6) else (none))))) else (if a0_1 = 3 then (if y102.length < 8796093022208 then ((some (y102 ++ [(⟨#[99, 104, 111, 105, 99, 101]⟩ : ByteArray)] : List ByteArray)).bind fun y121 => (if y121.length + l0_4.length < 8796093022208 then (impl_fieldLine.j0 k (y121 ++ l0_4) a0_0 a0_1 a0_2 a0_3 l0_4 a0_5 a0_6) else (none))) else (none)) else (if y102.length < 8796093022208 then (impl_fieldLine.j0 k (y102 ++ [(⟨#[102, 108, 97, 103]⟩ : ByteArray)]) a0_0 a0_1 a0_2 a0_3 l0_4 a0_5 a0_6) else (none)))))
def impl_fieldLine.T5 : Bool × List (List Nat × List Nat) := (true, [([], []), ([], []), ([1], [1]), ([2], [2]), ([], []), ([4], [4]), ([5, 3], [5]), ([3, 6], [3, 6]), ([0, 7, 6], [0, 7]), ([8, 8, 0, 1, 2, 3, 4, 5, 6, 7, 8], [0, 8])])
def impl_fieldLine.B5 : List Nat := [0, 0, 2, 6, 0, 16, 62, 126, 255, 511]
theorem impl_fieldLine.tab5 : rtab .any (opsOf Tryd.f48 5) = impl_fieldLine.T5 := by kernel_rfl
theorem impl_fieldLine.bits5 : waitsOk impl_fieldLine.T5.2 impl_fieldLine.B5 = true := by kernel_rfl
def impl_fieldLine.T7 : Bool × List (List Nat × List Nat) := (true, [([], []), ([], []), ([1], [1]), ([2], [2]), ([], []), ([4], [4]), ([5, 3], [5]), ([3, 6], [3, 6]), ([0, 7, 6], [0, 7]), ([8, 8, 0, 1, 2, 3, 4, 5, 6, 7, 8], [0, 8])])
def impl_fieldLine.B7 : List Nat := [0, 0, 2, 6, 0, 16, 62, 126, 255, 511]
theorem impl_fieldLine.tab7 : rtab .any (opsOf Tryd.f48 7) = impl_fieldLine.T7 := by kernel_rfl
theorem impl_fieldLine.bits7 : waitsOk impl_fieldLine.T7.2 impl_fieldLine.B7 = true := by kernel_rfl
set_option maxHeartbeats 8000000 in
set_option maxRecDepth 100000 in
theorem impl_fieldLine.calls (k : Nat) (a0_0 : ByteArray) (a0_1 : Int) (a0_2 : Int) (a0_3 : Int) (A0_4 : Option Addr) (c0_4 : Nat) (l0_4 : List ByteArray) (a0_5 : Bool) (a0_6 : ByteArray) (r : ByteArray) (w : World) (hr0_4 : Kd.C Kd.string w A0_4 l0_4.length l0_4) (hc0_4 : l0_4.length ≤ c0_4) (hG : GT w) (h : impl_fieldLine.f k a0_0 a0_1 a0_2 a0_3 l0_4 a0_5 a0_6 = some r) :
  Calls Tryd.prog 48 #[.agg #[.string a0_0, .int .i64 a0_1, .int .i64 a0_2, .int .i64 a0_3, .slice A0_4 l0_4.length c0_4, .bool a0_5, .string a0_6]] w fun e w' => e = .returned (.string r) ∧ Below w.heap.size w w' := by
 (have hu69 := Tryd.underlying69); (have HR0_4 := Aside0.mk hr0_4); (have HC0_4 := Aside0.mk hc0_4); clear hr0_4 hc0_4; (have HG := Aside0.mk hG); clear hG; (have HB := Aside0.mk (Below.refl w.heap.size w)); (unfold impl_fieldLine.f at h); (have H := h); clear h; (obtain ⟨y102, hy102⟩ : ∃ y_ : List ByteArray, y_ = (([a0_0] : List ByteArray)) := ⟨_, rfl⟩); (replace H : (if a0_1 = 1 then ((strconv_Itoa.f a0_2).bind fun t105 => ((strconv_Itoa.f a0_3).bind fun t106 => ((some (([(⟨#[110, 117, 109, 98, 101, 114]⟩ : ByteArray), t105, t106] : List ByteArray) : List ByteArray)).bind fun y107 => (if y102.length + y107.length < 8796093022208 then (impl_fieldLine.j0 k (y102 ++ y107) a0_0 a0_1 a0_2 a0_3 l0_4 a0_5 a0_6) else (none))))) else (if a0_1 = 2 then ((strconv_Itoa.f a0_2).bind fun t113 => ((strconv_Itoa.f a0_3).bind fun t114 => ((some (([(⟨#[116, 101, 120, 116]⟩ : ByteArray), t113, t114] : List ByteArray) : List ByteArray)).bind fun y115 => (if y102.length + y115.length < 8796093022208 then (impl_fieldLine.j0 k (y102 ++ y115) a0_0 a0_1 a0_2 a0_3 l0_4 a0_5 a0_6) else (none))))) else (if a0_1 = 3 then (if y102.length < 8796093022208 then ((some (y102 ++ [(⟨#[99, 104, 111, 105, 99, 101]⟩ : ByteArray)] : List ByteArray)).bind fun y121 => (if y121.length + l0_4.length < 8796093022208 then (impl_fieldLine.j0 k (y121 ++ l0_4) a0_0 a0_1 a0_2 a0_3 l0_4 a0_5 a0_6) else (none))) else (none)) else (if y102.length < 8796093022208 then (impl_fieldLine.j0 k (y102 ++ [(⟨#[102, 108, 97, 103]⟩ : ByteArray)]) a0_0 a0_1 a0_2 a0_3 l0_4 a0_5 a0_6) else (none))))) = some r := by first | (rw [hy102]; with_reducible exact H) | (have H2_ := (Option.bind_some _ _).symm.trans H; rw [hy102]; with_reducible exact H2_) | (have H2_ := (Option.bind_some _ _).symm.trans H; with_reducible exact H2_) | with_reducible exact H | (rw [hy102]; exact H) | exact H); (have Ny102 := Aside0.mk hy102); clear hy102; (have HC2 := Aside0.mk H); clear H; (go_enter Tryd.func48, Tryd.ntmps48)
 (go_upto_block 0 with (first | ((with_reducible refine gate_dst (N := 1) rfl ?_); refine box_event ?hg (N := 1) ?hd (cs := #[.string a0_0, .int .i64 a0_1, .int .i64 a0_2, .int .i64 a0_3, .slice A0_4 l0_4.length c0_4, .bool a0_5, .string a0_6]) (t := 69) ?hr ?_; (case hd => rfl); (case hg => rfl); (case hr => first | (go_simp; done) | (go_simp; rfl)); intro gb101 hg w3 hbox hb; have n0_ := Aside0.mk (sI hb HB); have n1_ := Aside0.mk (hbox); have n2_ := Aside0.mk (bx0 hg (eI HB)); have n3_ := Aside0.mk (bx0 hg (eI HB)); clear HB; have HB := n0_; have BK101 := n1_; have GW101 := n2_; have GE101 := n3_; clear n0_ n1_ n2_ n3_ hb hbox hg; have hcz4_0 := cz BK101.out 0; have hcz4_1 := cz BK101.out 1; have hcz4_2 := cz BK101.out 2; have hcz4_3 := cz BK101.out 3; have hcz4_4 := cz BK101.out 4; have hcz4_5 := cz BK101.out 5; have hcz4_6 := cz BK101.out 6; have hfz4_0 := blk_frozen BK101.out 0; have hfz4_1 := blk_frozen BK101.out 1; have hfz4_2 := blk_frozen BK101.out 2; have hfz4_3 := blk_frozen BK101.out 3; have hfz4_4 := blk_frozen BK101.out 4; have hfz4_5 := blk_frozen BK101.out 5; have hfz4_6 := blk_frozen BK101.out 6) | ((with_reducible refine gate_dst (N := 6) rfl ?_); refine Kd.R_lit Kd.string _ 9 ?hg (N := 6) ?hd (xs := ([a0_0] : List ByteArray)) (inner := [.string a0_0]) (ok := fun _ => True) (okp := fun _ => True) ?hr ?hp (fun _ hk => hk) trivial (Below.refl _ _) (Nat.le_refl _) (by simp) ?_; (case hd => rfl); (case hg => rfl); (case hr => first | (go_simp; done) | (go_simp; rfl)); (case hp => exact (Reps.one (show Kd.M Kd.string _ _ _ a0_0 [.string a0_0] from rfl) (Reps.none _ _))); intro v103 w5 ho6 hb hg_ hnew_; clear hg_ hnew_; (first | rw [← Ny102.out] at ho6 | (simp only [Int.reduceToNat] at ho6; rw [← Ny102.out] at ho6)); have n0_ := Aside0.mk (Kd.R_lower ho6 (below_size (eI HB))); have n1_ := Aside0.mk (kbI hb BK101); have n2_ := Aside0.mk (sI hb HB); clear BK101 HB; have HO104 := n0_; have BK101 := n1_; have HB := n2_; clear n0_ n1_ n2_ hb ho6; have hcz7_0 := cz BK101.out 0; have hcz7_1 := cz BK101.out 1; have hcz7_2 := cz BK101.out 2; have hcz7_3 := cz BK101.out 3; have hcz7_4 := cz BK101.out 4; have hcz7_5 := cz BK101.out 5; have hcz7_6 := cz BK101.out 6; have hfz7_0 := blk_frozen BK101.out 0; have hfz7_1 := blk_frozen BK101.out 1; have hfz7_2 := blk_frozen BK101.out 2; have hfz7_3 := blk_frozen BK101.out 3; have hfz7_4 := blk_frozen BK101.out 4; have hfz7_5 := blk_frozen BK101.out 5; have hfz7_6 := blk_frozen BK101.out 6))); ((try simp only [Act.put, aS1, aS2, aS3])); (go_cut [3] (fun v3 wc => ∃ (kq : Nat) (x3_1 : List ByteArray), Aside0 (impl_fieldLine.j0 kq x3_1 a0_0 a0_1 a0_2 a0_3 l0_4 a0_5 a0_6 = some r) ∧ Aside0 (kq ≤ k) ∧ Aside0 (Kd.R Kd.string 9 wc w.heap.size (fun _ => True) v3 x3_1) ∧ Aside0 (wc.heap[gb101]? = some (.cells #[.string a0_0, .int .i64 a0_1, .int .i64 a0_2, .int .i64 a0_3, (.slice A0_4 l0_4.length c0_4), .bool a0_5, .string a0_6] 69 (0, 0))) ∧ Aside0 (Below w.heap.size w wc)))
 case first =>
  (have H := HC2.out); clear HC2; (by_cases c8 : a0_1 = 1)
  ·rw [if_pos c8] at H
   (have c8b0 : (a0_1 == 1) = true := beq_iff_eq.mpr c8); (have c8b1 : (a0_1 != 1) = false := bne_eq_false_iff_eq.mpr c8); clear c8; ((first | rw [c8b0] | (simp only [i64_w, i32_w]; rw [c8b0]) | skip)); (replace H := obS H); (obtain ⟨t105, A9, H⟩ := H); (replace H := obS H); (obtain ⟨t106, A10, H⟩ := H); (obtain ⟨y107, hy107⟩ : ∃ y_ : List ByteArray, y_ = (([(⟨#[110, 117, 109, 98, 101, 114]⟩ : ByteArray), t105, t106] : List ByteArray)) := ⟨_, rfl⟩); (replace H : (if y102.length + y107.length < 8796093022208 then (impl_fieldLine.j0 k (y102 ++ y107) a0_0 a0_1 a0_2 a0_3 l0_4 a0_5 a0_6) else (none)) = some r := by first | (rw [hy107]; with_reducible exact H) | (have H2_ := (Option.bind_some _ _).symm.trans H; rw [hy107]; with_reducible exact H2_) | (have H2_ := (Option.bind_some _ _).symm.trans H; with_reducible exact H2_) | with_reducible exact H | (rw [hy107]; exact H) | exact H); (have Ny107 := Aside0.mk hy107); clear hy107; (by_cases c11 : y102.length + y107.length < 8796093022208)
   ·rw [if_pos c11] at H
    (have LMc11 := Aside0.mk c11); clear c11; (obtain ⟨y110, hy110⟩ : ∃ y_ : List ByteArray, y_ = (y102 ++ y107) := ⟨_, rfl⟩); (replace H : (impl_fieldLine.j0 k y110 a0_0 a0_1 a0_2 a0_3 l0_4 a0_5 a0_6) = some r := by first | (rw [hy110]; with_reducible exact H) | (have H2_ := (Option.bind_some _ _).symm.trans H; rw [hy110]; with_reducible exact H2_) | (have H2_ := (Option.bind_some _ _).symm.trans H; with_reducible exact H2_) | with_reducible exact H | (rw [hy110]; exact H) | exact H); (have Ny110 := Aside0.mk hy110); clear hy110; (have H' := Aside0.mk H); clear H; (try go_wp2); (have n0_ := Aside0.mk (Kd.R_drew HO104.out)); (have n1_ := Aside0.mk (blk_drew BK101.out)); (have n2_ := Aside0.mk (below_drew1 HB.out)); clear HO104 BK101 HB; (have HO104 := n0_); (have BK101 := n1_); (have HB := n2_); clear n0_ n1_ n2_; (refine start_ (n := 10) (S := fun w' => w'.cell? ⟨gb101, 0, none⟩ = some (.string a0_0) ∧ w'.cell? ⟨gb101, 1, none⟩ = some (.int .i64 a0_1) ∧ w'.cell? ⟨gb101, 2, none⟩ = some (.int .i64 a0_2) ∧ w'.cell? ⟨gb101, 3, none⟩ = some (.int .i64 a0_3) ∧ w'.cell? ⟨gb101, 4, none⟩ = some (.slice A0_4 l0_4.length c0_4) ∧ w'.cell? ⟨gb101, 5, none⟩ = some (.bool a0_5) ∧ w'.cell? ⟨gb101, 6, none⟩ = some (.string a0_6)) (ds := []) (cn 10 0) (by kernel_rfl) rfl (by kernel_rfl) ⟨cz BK101.out 0, cz BK101.out 1, cz BK101.out 2, cz BK101.out 3, cz BK101.out 4, cz BK101.out 5, cz BK101.out 6⟩ (fun hHeld => ?_); refine with_tabW impl_fieldLine.tab5 impl_fieldLine.bits5 (fun HT_ HW_ => ?_)); (generalize w5.drew = w12 at HO104 BK101 HB hHeld ⊢); (refine pB 0 (cn 10 1) (some 14) HT_ (h := ?_)); (refine pB 1 (cn 10 2) (some 15) HT_ (h := ?_)); (refine pB 4 (cb 10 19) (some 18) HT_ (h := ?_)); (refine tB 2 (cb 10 23) (some 16) HT_ HW_ hHeld (h := ?_)); (refine tB 5 (cb 10 55) (some 19) HT_ HW_ hHeld (h := ?_)); (refine oN 3 (some 17) (cn 10 6) HT_ (fun K hK => ?_)); (refine gG Tryd.func85 #[.int .i64 a0_2] ?_); (with_reducible refine (strconv_Itoa.calls a0_2 t105 _ ?side1 A9.out).mono ?_); ((case side1 => first | exact GT.below HG.out (eI HB) | (repeat (first | exact HG.out | (with_reducible first | apply GT.drewN | apply GT.drew | apply GT.alloc))))); (rintro e w13 ⟨rfl, hb⟩); (refine ⟨_, rfl, ?_⟩); (have n0_ := Aside0.mk (rbI hb HO104)); (have n1_ := Aside0.mk (kbI hb BK101)); (have n2_ := Aside0.mk (sI hb HB)); clear HO104 BK101 HB; (have HO104 := n0_); (have BK101 := n1_); (have HB := n2_); clear n0_ n1_ n2_; ((try clear hb)); ((try clear hb2)); ((try clear hk)); ((try clear hi)); (refine hK.out _ _ ⟨cz BK101.out 0, cz BK101.out 1, cz BK101.out 2, cz BK101.out 3, cz BK101.out 4, cz BK101.out 5, cz BK101.out 6⟩ (fun hHeld => ?_)); clear hK K; (refine nP (some 17) (h := ?_)); (refine oN 6 (some 20) (cn 10 7) HT_ (fun K hK => ?_)); (refine gG Tryd.func85 #[.int .i64 a0_3] ?_); (with_reducible refine (strconv_Itoa.calls a0_3 t106 _ ?side1 A10.out).mono ?_)
    ((case side1 => first | exact GT.below HG.out (eI HB) | (repeat (first | exact HG.out | (with_reducible first | apply GT.drewN | apply GT.drew | apply GT.alloc))))); (rintro e w14 ⟨rfl, hb⟩); (refine ⟨_, rfl, ?_⟩); (have n0_ := Aside0.mk (rbI hb HO104)); (have n1_ := Aside0.mk (kbI hb BK101)); (have n2_ := Aside0.mk (sI hb HB)); clear HO104 BK101 HB; (have HO104 := n0_); (have BK101 := n1_); (have HB := n2_); clear n0_ n1_ n2_; ((try clear hb)); ((try clear hb2)); ((try clear hk)); ((try clear hi)); (refine hK.out _ _ ⟨cz BK101.out 0, cz BK101.out 1, cz BK101.out 2, cz BK101.out 3, cz BK101.out 4, cz BK101.out 5, cz BK101.out 6⟩ (fun hHeld => ?_)); clear hK K; (refine nP (some 20) (h := ?_)); (refine oN 7 (some 21) (cn 10 8) HT_ (fun K hK => ?_)); (refine Kd.R_lit_step Kd.string _ 9 ?hg (N := 21) ?hd (xs := ([(⟨#[110, 117, 109, 98, 101, 114]⟩ : ByteArray), t105, t106] : List ByteArray)) (inner := [.string (⟨#[110, 117, 109, 98, 101, 114]⟩ : ByteArray), .string t105, .string t106]) (ok := fun _ => True) (okp := fun _ => True) ?hr ?hp (fun _ hk => hk) trivial (Below.refl _ _) (Nat.le_refl _) (by simp) ?_; (case hd => rfl); (case hg => rfl); (case hr => first | (go_simp; done) | (go_simp; rfl)); (case hp => exact (Reps.one (show Kd.M Kd.string _ _ _ (⟨#[110, 117, 109, 98, 101, 114]⟩ : ByteArray) [.string (⟨#[110, 117, 109, 98, 101, 114]⟩ : ByteArray)] from rfl) (Reps.one (show Kd.M Kd.string _ _ _ t105 [.string t105] from rfl) (Reps.one (show Kd.M Kd.string _ _ _ t106 [.string t106] from rfl) (Reps.none _ _)))))); intro v108 w15 ho16 hb hg_ hnew_; clear hg_ hnew_; ((first | rw [← Ny107.out] at ho16 | (simp only [Int.reduceToNat] at ho16; rw [← Ny107.out] at ho16))); (have n0_ := Aside0.mk (Kd.R_elder' (rI HO104) (Kd.R_base ho16) hb)); (have n1_ := Aside0.mk (Kd.R_lower (Kd.R_new' ho16 (Kd.R_lt (rI HO104))) (below_size (eI HB)))); (have n2_ := Aside0.mk (kbI hb BK101)); (have n3_ := Aside0.mk (sI hb HB)); clear HO104 BK101 HB; (have HO104 := n0_); (have HO109 := n1_); (have BK101 := n2_); (have HB := n3_); clear n0_ n1_ n2_ n3_ hb ho16; (obtain ⟨Ao18, co18, eo18⟩ := Kd.R_slice HO109.out); ((first | subst eo18 | (injection eo18 with f1_ f2_ f3_; have f4_ := f1_.symm; have f5_ := f3_.symm; clear f1_ f2_ f3_; subst f4_; subst f5_))); (refine hK.out _ _ ⟨cz BK101.out 0, cz BK101.out 1, cz BK101.out 2, cz BK101.out 3, cz BK101.out 4, cz BK101.out 5, cz BK101.out 6⟩ (fun hHeld => ?_)); clear hK K; (refine nP (some 21) (h := ?_)); (refine oN 8 (some 22) (cn 10 9) HT_ (fun K hK => ?_)); (refine Kd.R_append_rows_step Kd.string (w0 := w) w.heap.size (by rfl) (.tmp 14) (.tmp 21) 51 9 (.string ⟨#[]⟩) 16 rfl Tryd.underlying51 info9 rfl (by decide) (by omega) v103 y102 y107 _ _ _ (fun k_ => some k_ ≠ (.slice Ao18 y107.length co18 : Value).ownBlock) (fun _ => False) rfl rfl ?aO ?aR (fun _ _ h => h) (fun _ h => h.elim) ?aF ?aB ?aS ?aL ?_); ((case aR => repeat (first | exact (Kd.R_reads' HO109.out).2.2 | (with_reducible first | refine cA ?_ _ | refine cN ?_ _ | refine cD ?_)))); ((case aB => exact (eI HB))); ((case aF => exact (fun k_ hk => Kd.fresh' (Kd.R_lt (rI HO109)) k_ hk))); ((case aO => exact (by (with_reducible repeat (first | apply rA | apply rN | apply rD)); exact Kd.R_mono HO104.out (fun _ hk => hk.2)))); ((case aS => exact (below_size (eI HB)))); ((case aL => have := LMc11.out; omega)); intro v111 w17 ho hb hg hat; (rw [← Ny110.out] at ho)
    (have n0_ := Aside0.mk (blk_grown (kI BK101) hg (Kd.R_ne HO104.out BK101.out (by decide)))); (have n1_ := Aside0.mk (Kd.R_after (ok := (fun _ => True)) (rI HO109) hg hat)); (have n2_ := Aside0.mk (hb)); (have n3_ := Aside0.mk (ho)); clear BK101 HO109 HB HO104; (have BK101 := n0_); (have HO109 := n1_); (have HB := n2_); (have HO112 := n3_); clear n0_ n1_ n2_ n3_ ho hb hg hat; (refine hK.out _ _ ⟨cz BK101.out 0, cz BK101.out 1, cz BK101.out 2, cz BK101.out 3, cz BK101.out 4, cz BK101.out 5, cz BK101.out 6⟩ (fun hHeld => ?_)); clear hK K; (refine nP (some 22) (h := ?_)); (refine pB 9 (cn 10 10) (some 3) HT_ (h := ?_)); (refine done_ (done_of HT_.out (by kernel_rfl)) ?_); (try go_wp2); (go_meet)
    case rel => exact ⟨_, (y110), H', ⟨by first | omega | exact Nat.le_refl _⟩, ⟨by (with_reducible repeat (first | apply rA | apply rN | apply rD)); exact Kd.R_mono HO112.out (fun _ hk => trivial)⟩, ⟨kI BK101⟩, ⟨eI HB⟩⟩
   ·rw [if_neg c11] at H
    exact absurd H (by simp)
  ·rw [if_neg c8] at H
   (have c8b0 : (a0_1 == 1) = false := beq_eq_false_iff_ne.mpr c8); (have c8b1 : (a0_1 != 1) = true := bne_iff_ne.mpr c8); ((first | rw [c8b0] | (simp only [i64_w, i32_w]; rw [c8b0]) | skip)); (by_cases c19 : a0_1 = 2)
   ·rw [if_pos c19] at H
    (have c19b0 : (a0_1 == 2) = true := beq_iff_eq.mpr c19); (have c19b1 : (a0_1 != 2) = false := bne_eq_false_iff_eq.mpr c19); clear c19; (replace H := obS H); (obtain ⟨t113, A20, H⟩ := H); (replace H := obS H); (obtain ⟨t114, A21, H⟩ := H); (obtain ⟨y115, hy115⟩ : ∃ y_ : List ByteArray, y_ = (([(⟨#[116, 101, 120, 116]⟩ : ByteArray), t113, t114] : List ByteArray)) := ⟨_, rfl⟩); (replace H : (if y102.length + y115.length < 8796093022208 then (impl_fieldLine.j0 k (y102 ++ y115) a0_0 a0_1 a0_2 a0_3 l0_4 a0_5 a0_6) else (none)) = some r := by first | (rw [hy115]; with_reducible exact H) | (have H2_ := (Option.bind_some _ _).symm.trans H; rw [hy115]; with_reducible exact H2_) | (have H2_ := (Option.bind_some _ _).symm.trans H; with_reducible exact H2_) | with_reducible exact H | (rw [hy115]; exact H) | exact H); (have Ny115 := Aside0.mk hy115); clear hy115; (by_cases c22 : y102.length + y115.length < 8796093022208)
    ·rw [if_pos c22] at H
     (have LMc22 := Aside0.mk c22); clear c22; (obtain ⟨y118, hy118⟩ : ∃ y_ : List ByteArray, y_ = (y102 ++ y115) := ⟨_, rfl⟩); (replace H : (impl_fieldLine.j0 k y118 a0_0 a0_1 a0_2 a0_3 l0_4 a0_5 a0_6) = some r := by first | (rw [hy118]; with_reducible exact H) | (have H2_ := (Option.bind_some _ _).symm.trans H; rw [hy118]; with_reducible exact H2_) | (have H2_ := (Option.bind_some _ _).symm.trans H; with_reducible exact H2_) | with_reducible exact H | (rw [hy118]; exact H) | exact H); (have Ny118 := Aside0.mk hy118); clear hy118; (have H' := Aside0.mk H); clear H; (try go_wp2); (have n0_ := Aside0.mk (Kd.R_drew HO104.out)); (have n1_ := Aside0.mk (blk_drew BK101.out)); (have n2_ := Aside0.mk (below_drew1 HB.out)); clear HO104 BK101 HB; (have HO104 := n0_); (have BK101 := n1_); (have HB := n2_); clear n0_ n1_ n2_; (refine start_ (n := 10) (S := fun w' => w'.cell? ⟨gb101, 0, none⟩ = some (.string a0_0) ∧ w'.cell? ⟨gb101, 1, none⟩ = some (.int .i64 a0_1) ∧ w'.cell? ⟨gb101, 2, none⟩ = some (.int .i64 a0_2) ∧ w'.cell? ⟨gb101, 3, none⟩ = some (.int .i64 a0_3) ∧ w'.cell? ⟨gb101, 4, none⟩ = some (.slice A0_4 l0_4.length c0_4) ∧ w'.cell? ⟨gb101, 5, none⟩ = some (.bool a0_5) ∧ w'.cell? ⟨gb101, 6, none⟩ = some (.string a0_6)) (ds := []) (cn 10 0) (by kernel_rfl) rfl (by kernel_rfl) ⟨cz BK101.out 0, cz BK101.out 1, cz BK101.out 2, cz BK101.out 3, cz BK101.out 4, cz BK101.out 5, cz BK101.out 6⟩ (fun hHeld => ?_); refine with_tabW impl_fieldLine.tab7 impl_fieldLine.bits7 (fun HT_ HW_ => ?_)); (generalize w5.drew = w23 at HO104 BK101 HB hHeld ⊢); (refine pB 0 (cn 10 1) (some 25) HT_ (h := ?_)); (refine pB 1 (cn 10 2) (some 26) HT_ (h := ?_)); (refine pB 4 (cb 10 19) (some 29) HT_ (h := ?_)); (refine tB 2 (cb 10 23) (some 27) HT_ HW_ hHeld (h := ?_)); (refine tB 5 (cb 10 55) (some 30) HT_ HW_ hHeld (h := ?_)); (refine oN 3 (some 28) (cn 10 6) HT_ (fun K hK => ?_)); (refine gG Tryd.func85 #[.int .i64 a0_2] ?_); (with_reducible refine (strconv_Itoa.calls a0_2 t113 _ ?side1 A20.out).mono ?_); ((case side1 => first | exact GT.below HG.out (eI HB) | (repeat (first | exact HG.out | (with_reducible first | apply GT.drewN | apply GT.drew | apply GT.alloc))))); (rintro e w24 ⟨rfl, hb⟩); (refine ⟨_, rfl, ?_⟩); (have n0_ := Aside0.mk (rbI hb HO104)); (have n1_ := Aside0.mk (kbI hb BK101)); (have n2_ := Aside0.mk (sI hb HB)); clear HO104 BK101 HB; (have HO104 := n0_); (have BK101 := n1_); (have HB := n2_); clear n0_ n1_ n2_; ((try clear hb)); ((try clear hb2)); ((try clear hk)); ((try clear hi)); (refine hK.out _ _ ⟨cz BK101.out 0, cz BK101.out 1, cz BK101.out 2, cz BK101.out 3, cz BK101.out 4, cz BK101.out 5, cz BK101.out 6⟩ (fun hHeld => ?_)); clear hK K; (refine nP (some 28) (h := ?_)); (refine oN 6 (some 31) (cn 10 7) HT_ (fun K hK => ?_)); (refine gG Tryd.func85 #[.int .i64 a0_3] ?_); (with_reducible refine (strconv_Itoa.calls a0_3 t114 _ ?side1 A21.out).mono ?_)
     ((case side1 => first | exact GT.below HG.out (eI HB) | (repeat (first | exact HG.out | (with_reducible first | apply GT.drewN | apply GT.drew | apply GT.alloc))))); (rintro e w25 ⟨rfl, hb⟩); (refine ⟨_, rfl, ?_⟩); (have n0_ := Aside0.mk (rbI hb HO104)); (have n1_ := Aside0.mk (kbI hb BK101)); (have n2_ := Aside0.mk (sI hb HB)); clear HO104 BK101 HB; (have HO104 := n0_); (have BK101 := n1_); (have HB := n2_); clear n0_ n1_ n2_; ((try clear hb)); ((try clear hb2)); ((try clear hk)); ((try clear hi)); (refine hK.out _ _ ⟨cz BK101.out 0, cz BK101.out 1, cz BK101.out 2, cz BK101.out 3, cz BK101.out 4, cz BK101.out 5, cz BK101.out 6⟩ (fun hHeld => ?_)); clear hK K; (refine nP (some 31) (h := ?_)); (refine oN 7 (some 32) (cn 10 8) HT_ (fun K hK => ?_)); (refine Kd.R_lit_step Kd.string _ 9 ?hg (N := 32) ?hd (xs := ([(⟨#[116, 101, 120, 116]⟩ : ByteArray), t113, t114] : List ByteArray)) (inner := [.string (⟨#[116, 101, 120, 116]⟩ : ByteArray), .string t113, .string t114]) (ok := fun _ => True) (okp := fun _ => True) ?hr ?hp (fun _ hk => hk) trivial (Below.refl _ _) (Nat.le_refl _) (by simp) ?_; (case hd => rfl); (case hg => rfl); (case hr => first | (go_simp; done) | (go_simp; rfl)); (case hp => exact (Reps.one (show Kd.M Kd.string _ _ _ (⟨#[116, 101, 120, 116]⟩ : ByteArray) [.string (⟨#[116, 101, 120, 116]⟩ : ByteArray)] from rfl) (Reps.one (show Kd.M Kd.string _ _ _ t113 [.string t113] from rfl) (Reps.one (show Kd.M Kd.string _ _ _ t114 [.string t114] from rfl) (Reps.none _ _)))))); intro v116 w26 ho27 hb hg_ hnew_; clear hg_ hnew_; ((first | rw [← Ny115.out] at ho27 | (simp only [Int.reduceToNat] at ho27; rw [← Ny115.out] at ho27))); (have n0_ := Aside0.mk (Kd.R_elder' (rI HO104) (Kd.R_base ho27) hb)); (have n1_ := Aside0.mk (Kd.R_lower (Kd.R_new' ho27 (Kd.R_lt (rI HO104))) (below_size (eI HB)))); (have n2_ := Aside0.mk (kbI hb BK101)); (have n3_ := Aside0.mk (sI hb HB)); clear HO104 BK101 HB; (have HO104 := n0_); (have HO117 := n1_); (have BK101 := n2_); (have HB := n3_); clear n0_ n1_ n2_ n3_ hb ho27; (obtain ⟨Ao29, co29, eo29⟩ := Kd.R_slice HO117.out); ((first | subst eo29 | (injection eo29 with f1_ f2_ f3_; have f4_ := f1_.symm; have f5_ := f3_.symm; clear f1_ f2_ f3_; subst f4_; subst f5_))); (refine hK.out _ _ ⟨cz BK101.out 0, cz BK101.out 1, cz BK101.out 2, cz BK101.out 3, cz BK101.out 4, cz BK101.out 5, cz BK101.out 6⟩ (fun hHeld => ?_)); clear hK K; (refine nP (some 32) (h := ?_)); (refine oN 8 (some 33) (cn 10 9) HT_ (fun K hK => ?_)); (refine Kd.R_append_rows_step Kd.string (w0 := w) w.heap.size (by rfl) (.tmp 25) (.tmp 32) 51 9 (.string ⟨#[]⟩) 16 rfl Tryd.underlying51 info9 rfl (by decide) (by omega) v103 y102 y115 _ _ _ (fun k_ => some k_ ≠ (.slice Ao29 y115.length co29 : Value).ownBlock) (fun _ => False) rfl rfl ?aO ?aR (fun _ _ h => h) (fun _ h => h.elim) ?aF ?aB ?aS ?aL ?_); ((case aR => repeat (first | exact (Kd.R_reads' HO117.out).2.2 | (with_reducible first | refine cA ?_ _ | refine cN ?_ _ | refine cD ?_)))); ((case aB => exact (eI HB))); ((case aF => exact (fun k_ hk => Kd.fresh' (Kd.R_lt (rI HO117)) k_ hk))); ((case aO => exact (by (with_reducible repeat (first | apply rA | apply rN | apply rD)); exact Kd.R_mono HO104.out (fun _ hk => hk.2)))); ((case aS => exact (below_size (eI HB)))); ((case aL => have := LMc22.out; omega)); intro v119 w28 ho hb hg hat; (rw [← Ny118.out] at ho)
     (have n0_ := Aside0.mk (blk_grown (kI BK101) hg (Kd.R_ne HO104.out BK101.out (by decide)))); (have n1_ := Aside0.mk (Kd.R_after (ok := (fun _ => True)) (rI HO117) hg hat)); (have n2_ := Aside0.mk (hb)); (have n3_ := Aside0.mk (ho)); clear BK101 HO117 HB HO104; (have BK101 := n0_); (have HO117 := n1_); (have HB := n2_); (have HO120 := n3_); clear n0_ n1_ n2_ n3_ ho hb hg hat; (refine hK.out _ _ ⟨cz BK101.out 0, cz BK101.out 1, cz BK101.out 2, cz BK101.out 3, cz BK101.out 4, cz BK101.out 5, cz BK101.out 6⟩ (fun hHeld => ?_)); clear hK K; (refine nP (some 33) (h := ?_)); (refine pB 9 (cn 10 10) (some 3) HT_ (h := ?_)); (refine done_ (done_of HT_.out (by kernel_rfl)) ?_); (try go_wp2); (go_meet)
     case rel => exact ⟨_, (y118), H', ⟨by first | omega | exact Nat.le_refl _⟩, ⟨by (with_reducible repeat (first | apply rA | apply rN | apply rD)); exact Kd.R_mono HO120.out (fun _ hk => trivial)⟩, ⟨kI BK101⟩, ⟨eI HB⟩⟩
    ·rw [if_neg c22] at H
     exact absurd H (by simp)
   ·rw [if_neg c19] at H
    (have c19b0 : (a0_1 == 2) = false := beq_eq_false_iff_ne.mpr c19); (have c19b1 : (a0_1 != 2) = true := bne_iff_ne.mpr c19); (by_cases c30 : a0_1 = 3)
    ·rw [if_pos c30] at H
     (have c30b0 : (a0_1 == 3) = true := beq_iff_eq.mpr c30); (have c30b1 : (a0_1 != 3) = false := bne_eq_false_iff_eq.mpr c30); clear c30; (by_cases c31 : y102.length < 8796093022208)
     ·rw [if_pos c31] at H
      (have LMc31 := Aside0.mk c31); clear c31; (obtain ⟨y121, hy121⟩ : ∃ y_ : List ByteArray, y_ = (y102 ++ [(⟨#[99, 104, 111, 105, 99, 101]⟩ : ByteArray)]) := ⟨_, rfl⟩); (replace H : (if y121.length + l0_4.length < 8796093022208 then (impl_fieldLine.j0 k (y121 ++ l0_4) a0_0 a0_1 a0_2 a0_3 l0_4 a0_5 a0_6) else (none)) = some r := by first | (rw [hy121]; with_reducible exact H) | (have H2_ := (Option.bind_some _ _).symm.trans H; rw [hy121]; with_reducible exact H2_) | (have H2_ := (Option.bind_some _ _).symm.trans H; with_reducible exact H2_) | with_reducible exact H | (rw [hy121]; exact H) | exact H); (have Ny121 := Aside0.mk hy121); clear hy121; (by_cases c32 : y121.length + l0_4.length < 8796093022208)
      ·rw [if_pos c32] at H
       (have LMc32 := Aside0.mk c32); clear c32; (obtain ⟨y124, hy124⟩ : ∃ y_ : List ByteArray, y_ = (y121 ++ l0_4) := ⟨_, rfl⟩); (replace H : (impl_fieldLine.j0 k y124 a0_0 a0_1 a0_2 a0_3 l0_4 a0_5 a0_6) = some r := by first | (rw [hy124]; with_reducible exact H) | (have H2_ := (Option.bind_some _ _).symm.trans H; rw [hy124]; with_reducible exact H2_) | (have H2_ := (Option.bind_some _ _).symm.trans H; with_reducible exact H2_) | with_reducible exact H | (rw [hy124]; exact H) | exact H); (have Ny124 := Aside0.mk hy124); clear hy124; (have H' := Aside0.mk H); clear H; (try go_wp2); (have n0_ := Aside0.mk (Kd.R_drew HO104.out)); (have n1_ := Aside0.mk (blk_drew BK101.out)); (have n2_ := Aside0.mk (below_drew1 HB.out)); clear HO104 BK101 HB; (have HO104 := n0_); (have BK101 := n1_); (have HB := n2_); clear n0_ n1_ n2_; (refine start_ (n := 7) (S := fun w' => w'.cell? ⟨gb101, 0, none⟩ = some (.string a0_0) ∧ w'.cell? ⟨gb101, 1, none⟩ = some (.int .i64 a0_1) ∧ w'.cell? ⟨gb101, 2, none⟩ = some (.int .i64 a0_2) ∧ w'.cell? ⟨gb101, 3, none⟩ = some (.int .i64 a0_3) ∧ w'.cell? ⟨gb101, 4, none⟩ = some (.slice A0_4 l0_4.length c0_4) ∧ w'.cell? ⟨gb101, 5, none⟩ = some (.bool a0_5) ∧ w'.cell? ⟨gb101, 6, none⟩ = some (.string a0_6)) (ds := []) (cn 7 0) (by kernel_rfl) rfl (by kernel_rfl) ⟨cz BK101.out 0, cz BK101.out 1, cz BK101.out 2, cz BK101.out 3, cz BK101.out 4, cz BK101.out 5, cz BK101.out 6⟩ (fun hHeld => ?_)); (generalize w5.drew = w33 at HO104 BK101 HB hHeld ⊢); (refine pure_ (i := 0) (N := some 36) (v := ?_) (a' := ?_) (cn 7 1) rfl rfl (by kernel_rfl) (fun _ _ _ h => h) (Or.inl ⟨by rfl, ?_⟩) ?_ ?_); rotate_left; (· intro w'; go_simp; with_reducible rfl); rotate_left; (· (simp only [Act.put, aS1, aS2, aS3, i64_w, i32_w]); rfl); (refine pure_ (i := 3) (N := some 39) (v := ?_) (a' := ?_) (cb 7 9) rfl rfl (by kernel_rfl) (fun _ _ _ h => h) (Or.inl ⟨by rfl, ?_⟩) ?_ ?_); rotate_left; (· intro w'; go_simp; with_reducible rfl); rotate_left; (· (simp only [Act.put, aS1, aS2, aS3, i64_w, i32_w]); rfl); (refine take_ (i := 4) (N := some 40) (v := ?_) (a' := ?_) (cb 7 25) rfl rfl (by kernel_rfl) (fun _ _ _ h => h) (Or.inl ⟨by rfl, ?_⟩) hHeld ?_ ?_); rotate_left; (· (rintro w' ⟨s0, s1, s2, s3, s4, s5, s6⟩); go_simp; with_reducible rfl); rotate_left; (· (simp only [Act.put, aS1, aS2, aS3, i64_w, i32_w]); rfl); (refine one_ (i := 1) (N := some 37) (cb 7 27) rfl rfl (by kernel_rfl) (by decide) (fun K hK => ?_)); (refine value_ (w1 := ?_) (v := ?_) (by rfl) rfl ?_ ?_); (rotate_left 2)
       ·go_simp
        (constructor); (· rfl); (· rfl)
       (refine hK.out _ _ ⟨(blk_cell (blk_alloc BK101.out _) 0).trans rfl, (blk_cell (blk_alloc BK101.out _) 1).trans rfl, (blk_cell (blk_alloc BK101.out _) 2).trans rfl, (blk_cell (blk_alloc BK101.out _) 3).trans rfl, (blk_cell (blk_alloc BK101.out _) 4).trans rfl, (blk_cell (blk_alloc BK101.out _) 5).trans rfl, (blk_cell (blk_alloc BK101.out _) 6).trans rfl⟩ (fun hHeld => ?_)); clear hK K; (refine nP (some 37) (h := ?_)); (refine one_ (i := 2) (N := some 38) (cn 7 5) rfl rfl (by kernel_rfl) (by decide) (fun K hK => ?_)); (refine Kd.R_append_step Kd.string (w0 := w) w.heap.size (by rfl) (.tmp 36) (.tmp 37) 51 9 (.string ⟨#[]⟩) 16 rfl Tryd.underlying51 info9 rfl (by decide) (by omega) v103 y102 (⟨#[99, 104, 111, 105, 99, 101]⟩ : ByteArray) [.string (⟨#[99, 104, 111, 105, 99, 101]⟩ : ByteArray)] (fun _ => True) (fun _ => False) rfl rfl ?aP (fun _ hk => hk.elim) ?aF ?aO ?aB ?aS ?aL ?_); ((case aP => exact rfl)); ((case aB => exact (eI HB))); ((case aF => exact (fun _ _ => trivial))); ((case aO => exact (rI HO104))); ((case aS => exact (below_size (eI HB)))); ((case aL => have := LMc31.out; omega)); intro v122 w34 ho hb hg hat; (rw [← Ny121.out] at ho); (have n0_ := Aside0.mk (blk_grown (kI BK101) hg (Kd.R_ne HO104.out BK101.out (by decide)))); (have n1_ := Aside0.mk (hb)); (have n2_ := Aside0.mk (ho)); clear BK101 HB HO104; (have BK101 := n0_); (have HB := n1_); (have HO123 := n2_); clear n0_ n1_ n2_ ho hb hg hat; (refine hK.out _ _ ⟨cz BK101.out 0, cz BK101.out 1, cz BK101.out 2, cz BK101.out 3, cz BK101.out 4, cz BK101.out 5, cz BK101.out 6⟩ (fun hHeld => ?_)); clear hK K; (refine nP (some 38) (h := ?_)); (refine one_ (i := 5) (N := some 41) (cn 7 6) rfl rfl (by kernel_rfl) (by decide) (fun K hK => ?_)); (refine Kd.R_append_rows_step Kd.string (w0 := w) w.heap.size (by rfl) (.tmp 38) (.tmp 40) 51 9 (.string ⟨#[]⟩) 16 rfl Tryd.underlying51 info9 rfl (by decide) (by omega) v122 y121 l0_4 _ _ _ (fun _ => True) (fun _ => False) rfl rfl ?aO ?aR (fun _ _ h => h) (fun _ h => h.elim) ?aF ?aB ?aS ?aL ?_); ((case aR => exact Kd.C_below HR0_4.out (eI HB))); ((case aB => exact (eI HB))); ((case aF => exact (fun _ _ => trivial))); ((case aO => exact (rI HO123))); ((case aS => exact (below_size (eI HB)))); ((case aL => have := LMc32.out; omega)); intro v125 w35 ho hb hg hat; (rw [← Ny124.out] at ho); (have n0_ := Aside0.mk (blk_grown (kI BK101) hg (Kd.R_ne HO123.out BK101.out (by decide)))); (have n1_ := Aside0.mk (hb)); (have n2_ := Aside0.mk (ho)); clear BK101 HB HO123; (have BK101 := n0_); (have HB := n1_); (have HO126 := n2_); clear n0_ n1_ n2_ ho hb hg hat; (refine hK.out _ _ ⟨cz BK101.out 0, cz BK101.out 1, cz BK101.out 2, cz BK101.out 3, cz BK101.out 4, cz BK101.out 5, cz BK101.out 6⟩ (fun hHeld => ?_)); clear hK K; (refine nP (some 41) (h := ?_)); (refine pure_ (i := 6) (N := some 3) (v := ?_) (a' := ?_) (cn 7 7) rfl rfl (by kernel_rfl) (fun _ _ _ h => h) (Or.inl ⟨by rfl, ?_⟩) ?_ ?_); rotate_left; (· intro w'; go_simp; with_reducible rfl); rotate_left; (· (simp only [Act.put, aS1, aS2, aS3, i64_w, i32_w]); rfl); (refine done_ (by kernel_rfl) ?_); (try go_wp2); (go_meet)
       case rel => exact ⟨_, (y124), H', ⟨by first | omega | exact Nat.le_refl _⟩, ⟨rI HO126⟩, ⟨kI BK101⟩, ⟨eI HB⟩⟩
      ·rw [if_neg c32] at H
       exact absurd H (by simp)
     ·rw [if_neg c31] at H
      exact absurd H (by simp)
    ·rw [if_neg c30] at H
     (have c30b0 : (a0_1 == 3) = false := beq_eq_false_iff_ne.mpr c30); (have c30b1 : (a0_1 != 3) = true := bne_iff_ne.mpr c30); (by_cases c36 : y102.length < 8796093022208)
     ·rw [if_pos c36] at H
      (have LMc36 := Aside0.mk c36); clear c36; (obtain ⟨y127, hy127⟩ : ∃ y_ : List ByteArray, y_ = (y102 ++ [(⟨#[102, 108, 97, 103]⟩ : ByteArray)]) := ⟨_, rfl⟩); (replace H : (impl_fieldLine.j0 k y127 a0_0 a0_1 a0_2 a0_3 l0_4 a0_5 a0_6) = some r := by first | (rw [hy127]; with_reducible exact H) | (have H2_ := (Option.bind_some _ _).symm.trans H; rw [hy127]; with_reducible exact H2_) | (have H2_ := (Option.bind_some _ _).symm.trans H; with_reducible exact H2_) | with_reducible exact H | (rw [hy127]; exact H) | exact H); (have Ny127 := Aside0.mk hy127); clear hy127; (have H' := Aside0.mk H); clear H; (go_wp2_with (first | ((with_reducible refine gate_builtin (b := .append) (xs := #[.tmp 9, .tmp 10]) rfl ?_); at_builtin; refine Kd.R_append Kd.string (w0 := w) w.heap.size rfl (.tmp 9) (.tmp 10) 51 9 (.string ⟨#[]⟩) 16 rfl Tryd.underlying51 info9 rfl (by decide) (by omega) v103 y102 (⟨#[102, 108, 97, 103]⟩ : ByteArray) [.string (⟨#[102, 108, 97, 103]⟩ : ByteArray)] (fun _ => True) (fun _ => False) rfl rfl ?aP (fun _ hk => hk.elim) ?aF ?aO ?aB ?aS ?aL ?_; (case aP => exact rfl); (case aB => exact (eI HB)); (case aF => exact (fun _ _ => trivial)); (case aO => exact (rI HO104)); (case aS => exact (below_size (eI HB))); (case aL => have := LMc36.out; omega); intro v128 w37 ho hb hg hat; rw [← Ny127.out] at ho; have n0_ := Aside0.mk (blk_grown (kI BK101) hg (Kd.R_ne HO104.out BK101.out (by decide))); have n1_ := Aside0.mk (hb); have n2_ := Aside0.mk (ho); clear BK101 HB HO104; have BK101 := n0_; have HB := n1_; have HO129 := n2_; clear n0_ n1_ n2_ ho hb hg hat))); (go_meet)
      case rel => exact ⟨_, (y127), H', ⟨by first | omega | exact Nat.le_refl _⟩, ⟨rI HO129⟩, ⟨kI BK101⟩, ⟨eI HB⟩⟩
     ·rw [if_neg c36] at H
      exact absurd H (by simp)
 case rest =>
  clear HC2; (try clear c1); (try clear c2); (try clear p2); (try clear c3); (try clear c4); (try clear c8); (try clear c8b0); (try clear c8b1); (try clear c11); (try clear c19); (try clear c19b0); (try clear c19b1); (try clear c22); (try clear c30); (try clear c30b0); (try clear c30b1); (try clear c31); (try clear c32); (try clear c36); (try clear hcz4_0); (try clear hcz4_1); (try clear hcz4_2); (try clear hcz4_3); (try clear hcz4_4); (try clear hcz4_5); (try clear hcz4_6); (try clear hcz7_0); (try clear hcz7_1); (try clear hcz7_2); (try clear hcz7_3); (try clear hcz7_4); (try clear hcz7_5); (try clear hcz7_6); (try clear hfz4_0); (try clear hfz4_1); (try clear hfz4_2); (try clear hfz4_3); (try clear hfz4_4); (try clear hfz4_5); (try clear hfz4_6); (try clear hfz7_0); (try clear hfz7_1); (try clear hfz7_2); (try clear hfz7_3); (try clear hfz7_4); (try clear hfz7_5); (try clear hfz7_6); (obtain ⟨kq, x3_1, HA, HJ1, HO_3, BK101, HB⟩ := hcut)
  cases kq with
  | zero => exact absurd HA.out (by simp [impl_fieldLine.j0])
  | succ kj1 =>
   (have H := HA.out); clear HA; (simp only [impl_fieldLine.j0] at H); (by_cases c38 : a0_5 = true)
   ·subst c38
    (rw [if_pos rfl] at H); (by_cases c39 : x3_1.length < 8796093022208)
    ·rw [if_pos c39] at H
     (have LMc39 := Aside0.mk c39); clear c39; (obtain ⟨y130, hy130⟩ : ∃ y_ : List ByteArray, y_ = (x3_1 ++ [(⟨#[110, 101, 101, 100, 101, 100]⟩ : ByteArray)]) := ⟨_, rfl⟩); (replace H : (if a0_6.toList = ([] : List UInt8) then ((strings_Join.f y130 (⟨#[32]⟩ : ByteArray)).bind fun t133 => (some t133)) else ((some (([(⟨#[105, 102]⟩ : ByteArray), a0_6] : List ByteArray) : List ByteArray)).bind fun y134 => (if y130.length + y134.length < 8796093022208 then ((strings_Join.f (y130 ++ y134) (⟨#[32]⟩ : ByteArray)).bind fun t140 => (some t140)) else (none)))) = some r := by first | (rw [hy130]; with_reducible exact H) | (have H2_ := (Option.bind_some _ _).symm.trans H; rw [hy130]; with_reducible exact H2_) | (have H2_ := (Option.bind_some _ _).symm.trans H; with_reducible exact H2_) | with_reducible exact H | (rw [hy130]; exact H) | exact H); (have Ny130 := Aside0.mk hy130); clear hy130; (by_cases c40 : a0_6.toList = ([] : List UInt8))
     ·rw [if_pos c40] at H
      (have c40b0 : a0_6.toList.isEmpty = true := List.isEmpty_iff.mpr c40); (have c40b1 : (!a0_6.toList.isEmpty) = false := by rw [List.isEmpty_iff.mpr c40]; rfl); (have c40b2 : (a0_6.toList == ([] : List UInt8)) = true := beq_iff_eq.mpr c40); (have c40b3 : (a0_6.toList != ([] : List UInt8)) = false := bne_eq_false_iff_eq.mpr c40); clear c40; (replace H := obS H); (obtain ⟨t133, A41, H⟩ := H); (obtain rfl := Option.some.inj H); (have hcz42_0 := cz BK101.out 0); (have hcz42_1 := cz BK101.out 1); (have hcz42_2 := cz BK101.out 2); (have hcz42_3 := cz BK101.out 3); (have hcz42_4 := cz BK101.out 4); (have hcz42_5 := cz BK101.out 5); (have hcz42_6 := cz BK101.out 6); (have hfz42_0 := blk_frozen BK101.out 0); (have hfz42_1 := blk_frozen BK101.out 1); (have hfz42_2 := blk_frozen BK101.out 2); (have hfz42_3 := blk_frozen BK101.out 3); (have hfz42_4 := blk_frozen BK101.out 4); (have hfz42_5 := blk_frozen BK101.out 5); (have hfz42_6 := blk_frozen BK101.out 6); (go_wp2_with (first | ((with_reducible refine gate_builtin (b := .append) (xs := #[.tmp 44, .tmp 45]) rfl ?_); at_builtin; refine Kd.R_append Kd.string (w0 := w) w.heap.size rfl (.tmp 44) (.tmp 45) 51 9 (.string ⟨#[]⟩) 16 rfl Tryd.underlying51 info9 rfl (by decide) (by omega) u3 x3_1 (⟨#[110, 101, 101, 100, 101, 100]⟩ : ByteArray) [.string (⟨#[110, 101, 101, 100, 101, 100]⟩ : ByteArray)] (fun _ => True) (fun _ => False) rfl rfl ?aP (fun _ hk => hk.elim) ?aF ?aO ?aB ?aS ?aL ?_; (case aP => exact rfl); (case aB => exact (eI HB)); (case aF => exact (fun _ _ => trivial)); (case aO => exact (rI HO_3)); (case aS => exact (below_size (eI HB))); (case aL => have := LMc39.out; omega); intro v131 w43 ho hb hg hat; rw [← Ny130.out] at ho; have n0_ := Aside0.mk (blk_grown (kI BK101) hg (Kd.R_ne HO_3.out BK101.out (by decide))); have n1_ := Aside0.mk (hb); have n2_ := Aside0.mk (ho); clear BK101 HB HO_3; have BK101 := n0_; have HB := n1_; have HO132 := n2_; clear n0_ n1_ n2_ ho hb hg hat; have hcz44_0 := cz BK101.out 0; have hcz44_1 := cz BK101.out 1; have hcz44_2 := cz BK101.out 2; have hcz44_3 := cz BK101.out 3; have hcz44_4 := cz BK101.out 4; have hcz44_5 := cz BK101.out 5; have hcz44_6 := cz BK101.out 6; have hfz44_0 := blk_frozen BK101.out 0; have hfz44_1 := blk_frozen BK101.out 1; have hfz44_2 := blk_frozen BK101.out 2; have hfz44_3 := blk_frozen BK101.out 3; have hfz44_4 := blk_frozen BK101.out 4; have hfz44_5 := blk_frozen BK101.out 5; have hfz44_6 := blk_frozen BK101.out 6; obtain ⟨Ao45, co45, eo45⟩ := Kd.R_slice HO132.out; subst eo45) | ((with_reducible refine gate_callee (f := 86) rfl ?_); refine gL (some 56) Tryd.func86 #[.slice Ao45 y130.length co45, .string (⟨#[32]⟩ : ByteArray)] ?_; (with_reducible refine (strings_Join.calls _ _ y130 (⟨#[32]⟩ : ByteArray) t133 _ ?side1 ?side2 A41.out).mono ?_); (case side1 => repeat (first | exact (Kd.R_reads' HO132.out).2.2 | (with_reducible first | refine cA ?_ _ | refine cN ?_ _ | refine cD ?_))); (case side2 => exact (Kd.R_reads' HO132.out).2.1); rintro e w46 ⟨rfl, hb⟩; refine ⟨_, rfl, ?_⟩; have n0_ := Aside0.mk (rbI hb HO132); have n1_ := Aside0.mk (kbI hb BK101); have n2_ := Aside0.mk (sI hb HB); clear HO132 BK101 HB; have HO132 := n0_; have BK101 := n1_; have HB := n2_; clear n0_ n1_ n2_; (try clear hb); (try clear hb2); (try clear hk); (try clear hi)))); go_ret; (exact ⟨rfl, eI HB⟩)
     ·rw [if_neg c40] at H
      (have c40b0 : a0_6.toList.isEmpty = false := by rw [Bool.eq_false_iff]; exact fun h_ => c40 (List.isEmpty_iff.mp h_)); (have c40b1 : (!a0_6.toList.isEmpty) = true := by rw [show a0_6.toList.isEmpty = false from by rw [Bool.eq_false_iff]; exact fun h_ => c40 (List.isEmpty_iff.mp h_)]; rfl); (have c40b2 : (a0_6.toList == ([] : List UInt8)) = false := beq_eq_false_iff_ne.mpr c40); (have c40b3 : (a0_6.toList != ([] : List UInt8)) = true := bne_iff_ne.mpr c40); (obtain ⟨y134, hy134⟩ : ∃ y_ : List ByteArray, y_ = (([(⟨#[105, 102]⟩ : ByteArray), a0_6] : List ByteArray)) := ⟨_, rfl⟩); (replace H : (if y130.length + y134.length < 8796093022208 then ((strings_Join.f (y130 ++ y134) (⟨#[32]⟩ : ByteArray)).bind fun t140 => (some t140)) else (none)) = some r := by first | (rw [hy134]; with_reducible exact H) | (have H2_ := (Option.bind_some _ _).symm.trans H; rw [hy134]; with_reducible exact H2_) | (have H2_ := (Option.bind_some _ _).symm.trans H; with_reducible exact H2_) | with_reducible exact H | (rw [hy134]; exact H) | exact H); (have Ny134 := Aside0.mk hy134); clear hy134; (by_cases c47 : y130.length + y134.length < 8796093022208)
      ·rw [if_pos c47] at H
       (have LMc47 := Aside0.mk c47); clear c47; (obtain ⟨y137, hy137⟩ : ∃ y_ : List ByteArray, y_ = (y130 ++ y134) := ⟨_, rfl⟩); (replace H : ((strings_Join.f y137 (⟨#[32]⟩ : ByteArray)).bind fun t140 => (some t140)) = some r := by first | (rw [hy137]; with_reducible exact H) | (have H2_ := (Option.bind_some _ _).symm.trans H; rw [hy137]; with_reducible exact H2_) | (have H2_ := (Option.bind_some _ _).symm.trans H; with_reducible exact H2_) | with_reducible exact H | (rw [hy137]; exact H) | exact H); (have Ny137 := Aside0.mk hy137); clear hy137; (replace H := obS H); (obtain ⟨t140, A48, H⟩ := H); (obtain rfl := Option.some.inj H); (have hcz49_0 := cz BK101.out 0); (have hcz49_1 := cz BK101.out 1); (have hcz49_2 := cz BK101.out 2); (have hcz49_3 := cz BK101.out 3); (have hcz49_4 := cz BK101.out 4); (have hcz49_5 := cz BK101.out 5); (have hcz49_6 := cz BK101.out 6); (have hfz49_0 := blk_frozen BK101.out 0); (have hfz49_1 := blk_frozen BK101.out 1); (have hfz49_2 := blk_frozen BK101.out 2); (have hfz49_3 := blk_frozen BK101.out 3); (have hfz49_4 := blk_frozen BK101.out 4); (have hfz49_5 := blk_frozen BK101.out 5); (have hfz49_6 := blk_frozen BK101.out 6)
       go_wp2_with (first | ((with_reducible refine gate_builtin (b := .append) (xs := #[.tmp 44, .tmp 45]) rfl ?_); at_builtin; refine Kd.R_append Kd.string (w0 := w) w.heap.size rfl (.tmp 44) (.tmp 45) 51 9 (.string ⟨#[]⟩) 16 rfl Tryd.underlying51 info9 rfl (by decide) (by omega) u3 x3_1 (⟨#[110, 101, 101, 100, 101, 100]⟩ : ByteArray) [.string (⟨#[110, 101, 101, 100, 101, 100]⟩ : ByteArray)] (fun _ => True) (fun _ => False) rfl rfl ?aP (fun _ hk => hk.elim) ?aF ?aO ?aB ?aS ?aL ?_; (case aP => exact rfl); (case aB => exact (eI HB)); (case aF => exact (fun _ _ => trivial)); (case aO => exact (rI HO_3)); (case aS => exact (below_size (eI HB))); (case aL => have := LMc39.out; omega); intro v131 w50 ho hb hg hat; rw [← Ny130.out] at ho; have n0_ := Aside0.mk (blk_grown (kI BK101) hg (Kd.R_ne HO_3.out BK101.out (by decide))); have n1_ := Aside0.mk (hb); have n2_ := Aside0.mk (ho); clear BK101 HB HO_3; have BK101 := n0_; have HB := n1_; have HO132 := n2_; clear n0_ n1_ n2_ ho hb hg hat; have hcz51_0 := cz BK101.out 0; have hcz51_1 := cz BK101.out 1; have hcz51_2 := cz BK101.out 2; have hcz51_3 := cz BK101.out 3; have hcz51_4 := cz BK101.out 4; have hcz51_5 := cz BK101.out 5; have hcz51_6 := cz BK101.out 6; have hfz51_0 := blk_frozen BK101.out 0; have hfz51_1 := blk_frozen BK101.out 1; have hfz51_2 := blk_frozen BK101.out 2; have hfz51_3 := blk_frozen BK101.out 3; have hfz51_4 := blk_frozen BK101.out 4; have hfz51_5 := blk_frozen BK101.out 5; have hfz51_6 := blk_frozen BK101.out 6) | ((with_reducible refine gate_dst (N := 53) rfl ?_); refine Kd.R_lit Kd.string _ 9 ?hg (N := 53) ?hd (xs := ([(⟨#[105, 102]⟩ : ByteArray), a0_6] : List ByteArray)) (inner := [.string (⟨#[105, 102]⟩ : ByteArray), .string a0_6]) (ok := fun _ => True) (okp := fun _ => True) ?hr ?hp (fun _ hk => hk) trivial (Below.refl _ _) (Nat.le_refl _) (by simp) ?_; (case hd => rfl); (case hg => rfl); (case hr => first | (go_simp; done) | (go_simp; rfl)); (case hp => exact (Reps.one (show Kd.M Kd.string _ _ _ (⟨#[105, 102]⟩ : ByteArray) [.string (⟨#[105, 102]⟩ : ByteArray)] from rfl) (Reps.one (show Kd.M Kd.string _ _ _ a0_6 [.string a0_6] from rfl) (Reps.none _ _)))); intro v135 w52 ho53 hb hg_ hnew_; clear hg_ hnew_; (first | rw [← Ny134.out] at ho53 | (simp only [Int.reduceToNat] at ho53; rw [← Ny134.out] at ho53)); have n0_ := Aside0.mk (Kd.R_elder' (rI HO132) (Kd.R_base ho53) hb); have hB_ := zI hb HB; have n1_ := Aside0.mk (Kd.R_lower (Kd.R_new' ho53 (Kd.R_lt (rI HO132))) (below_size hB_)); have n2_ := Aside0.mk (kbI hb BK101); have n3_ := Aside0.mk (below_step hB_ hb); clear HO132 BK101 HB; have HO132 := n0_; have HO136 := n1_; have BK101 := n2_; have HB := n3_; clear n0_ n1_ n2_ n3_ hB_ hb ho53; obtain ⟨Ao55, co55, eo55⟩ := Kd.R_slice HO136.out; subst eo55) | ((with_reducible refine gate_builtin (b := .append) (xs := #[.tmp 50, .tmp 53]) rfl ?_); at_builtin; refine Kd.R_append_rows Kd.string (w0 := w) w.heap.size rfl (.tmp 50) (.tmp 53) 51 9 (.string ⟨#[]⟩) 16 rfl Tryd.underlying51 info9 rfl (by decide) (by omega) v131 y130 y134 _ _ _ (fun k_ => some k_ ≠ (.slice Ao55 y134.length co55 : Value).ownBlock) (fun _ => False) rfl rfl ?aO ?aR (fun _ _ h => h) (fun _ h => h.elim) ?aF ?aB ?aS ?aL ?_; (case aR => repeat (first | exact (Kd.R_reads' HO136.out).2.2 | (with_reducible first | refine cA ?_ _ | refine cN ?_ _ | refine cD ?_))); (case aB => exact (eI HB)); (case aF => exact (fun k_ hk => Kd.fresh' (Kd.R_lt (rI HO136)) k_ hk)); (case aO => exact (by (with_reducible repeat (first | apply rA | apply rN | apply rD)); exact Kd.R_mono HO132.out (fun _ hk => hk.2))); (case aS => exact (below_size (eI HB))); (case aL => have := LMc47.out; omega); intro v138 w54 ho hb hg hat; rw [← Ny137.out] at ho; have n0_ := Aside0.mk (blk_grown (kI BK101) hg (Kd.R_ne HO132.out BK101.out (by decide))); have n1_ := Aside0.mk (Kd.R_after (ok := (fun _ => True)) (rI HO136) hg hat); have n2_ := Aside0.mk (hb); have n3_ := Aside0.mk (ho); clear BK101 HO136 HB HO132; have BK101 := n0_; have HO136 := n1_; have HB := n2_; have HO139 := n3_; clear n0_ n1_ n2_ n3_ ho hb hg hat; obtain ⟨Ao56, co56, eo56⟩ := Kd.R_slice HO139.out; subst eo56) | ((with_reducible refine gate_callee (f := 86) rfl ?_); refine gL (some 56) Tryd.func86 #[.slice Ao56 y137.length co56, .string (⟨#[32]⟩ : ByteArray)] ?_; (with_reducible refine (strings_Join.calls _ _ y137 (⟨#[32]⟩ : ByteArray) t140 _ ?side1 ?side2 A48.out).mono ?_); (case side1 => repeat (first | exact (Kd.R_reads' HO139.out).2.2 | (with_reducible first | refine cA ?_ _ | refine cN ?_ _ | refine cD ?_))); (case side2 => exact (Kd.R_reads' HO139.out).2.1); rintro e w57 ⟨rfl, hb⟩; refine ⟨_, rfl, ?_⟩; have n0_ := Aside0.mk (rbI hb HO136); have n1_ := Aside0.mk (rbI hb HO139); have n2_ := Aside0.mk (kbI hb BK101); have n3_ := Aside0.mk (sI hb HB); clear HO136 HO139 BK101 HB; have HO136 := n0_; have HO139 := n1_; have BK101 := n2_; have HB := n3_; clear n0_ n1_ n2_ n3_; (try clear hb); (try clear hb2); (try clear hk); (try clear hi)))
       go_ret; (exact ⟨rfl, eI HB⟩)
      ·rw [if_neg c47] at H
       exact absurd H (by simp)
    ·rw [if_neg c39] at H
     exact absurd H (by simp)
   ·replace c38 := Bool.eq_false_iff.mpr c38
    subst c38; (rw [if_neg (show ¬ (false = true) by decide)] at H); (by_cases c58 : a0_6.toList = ([] : List UInt8))
    ·rw [if_pos c58] at H
     (have c58b0 : a0_6.toList.isEmpty = true := List.isEmpty_iff.mpr c58); (have c58b1 : (!a0_6.toList.isEmpty) = false := by rw [List.isEmpty_iff.mpr c58]; rfl); (have c58b2 : (a0_6.toList == ([] : List UInt8)) = true := beq_iff_eq.mpr c58); (have c58b3 : (a0_6.toList != ([] : List UInt8)) = false := bne_eq_false_iff_eq.mpr c58); clear c58; (replace H := obS H); (obtain ⟨t141, A59, H⟩ := H); (obtain rfl := Option.some.inj H); (have hcz60_0 := cz BK101.out 0); (have hcz60_1 := cz BK101.out 1); (have hcz60_2 := cz BK101.out 2); (have hcz60_3 := cz BK101.out 3); (have hcz60_4 := cz BK101.out 4); (have hcz60_5 := cz BK101.out 5); (have hcz60_6 := cz BK101.out 6); (have hfz60_0 := blk_frozen BK101.out 0); (have hfz60_1 := blk_frozen BK101.out 1); (have hfz60_2 := blk_frozen BK101.out 2); (have hfz60_3 := blk_frozen BK101.out 3); (have hfz60_4 := blk_frozen BK101.out 4); (have hfz60_5 := blk_frozen BK101.out 5); (have hfz60_6 := blk_frozen BK101.out 6); (obtain ⟨Ao61, co61, eo61⟩ := Kd.R_slice HO_3.out); subst eo61; (go_wp2_with (first | ((with_reducible refine gate_callee (f := 86) rfl ?_); refine gL (some 56) Tryd.func86 #[.slice Ao61 x3_1.length co61, .string (⟨#[32]⟩ : ByteArray)] ?_; (with_reducible refine (strings_Join.calls _ _ x3_1 (⟨#[32]⟩ : ByteArray) t141 _ ?side1 ?side2 A59.out).mono ?_); (case side1 => repeat (first | exact (Kd.R_reads' HO_3.out).2.2 | (with_reducible first | refine cA ?_ _ | refine cN ?_ _ | refine cD ?_))); (case side2 => exact (Kd.R_reads' HO_3.out).2.1); rintro e w62 ⟨rfl, hb⟩; refine ⟨_, rfl, ?_⟩; have n0_ := Aside0.mk (rbI hb HO_3); have n1_ := Aside0.mk (kbI hb BK101); have n2_ := Aside0.mk (sI hb HB); clear HO_3 BK101 HB; have HO_3 := n0_; have BK101 := n1_; have HB := n2_; clear n0_ n1_ n2_; (try clear hb); (try clear hb2); (try clear hk); (try clear hi)))); go_ret; (exact ⟨rfl, eI HB⟩)
    ·rw [if_neg c58] at H
     (have c58b0 : a0_6.toList.isEmpty = false := by rw [Bool.eq_false_iff]; exact fun h_ => c58 (List.isEmpty_iff.mp h_)); (have c58b1 : (!a0_6.toList.isEmpty) = true := by rw [show a0_6.toList.isEmpty = false from by rw [Bool.eq_false_iff]; exact fun h_ => c58 (List.isEmpty_iff.mp h_)]; rfl); (have c58b2 : (a0_6.toList == ([] : List UInt8)) = false := beq_eq_false_iff_ne.mpr c58); (have c58b3 : (a0_6.toList != ([] : List UInt8)) = true := bne_iff_ne.mpr c58); (obtain ⟨y142, hy142⟩ : ∃ y_ : List ByteArray, y_ = (([(⟨#[105, 102]⟩ : ByteArray), a0_6] : List ByteArray)) := ⟨_, rfl⟩); (replace H : (if x3_1.length + y142.length < 8796093022208 then ((strings_Join.f (x3_1 ++ y142) (⟨#[32]⟩ : ByteArray)).bind fun t148 => (some t148)) else (none)) = some r := by first | (rw [hy142]; with_reducible exact H) | (have H2_ := (Option.bind_some _ _).symm.trans H; rw [hy142]; with_reducible exact H2_) | (have H2_ := (Option.bind_some _ _).symm.trans H; with_reducible exact H2_) | with_reducible exact H | (rw [hy142]; exact H) | exact H); (have Ny142 := Aside0.mk hy142); clear hy142; (by_cases c63 : x3_1.length + y142.length < 8796093022208)
     ·rw [if_pos c63] at H
      (have LMc63 := Aside0.mk c63); clear c63; (obtain ⟨y145, hy145⟩ : ∃ y_ : List ByteArray, y_ = (x3_1 ++ y142) := ⟨_, rfl⟩); (replace H : ((strings_Join.f y145 (⟨#[32]⟩ : ByteArray)).bind fun t148 => (some t148)) = some r := by first | (rw [hy145]; with_reducible exact H) | (have H2_ := (Option.bind_some _ _).symm.trans H; rw [hy145]; with_reducible exact H2_) | (have H2_ := (Option.bind_some _ _).symm.trans H; with_reducible exact H2_) | with_reducible exact H | (rw [hy145]; exact H) | exact H); (have Ny145 := Aside0.mk hy145); clear hy145; (replace H := obS H); (obtain ⟨t148, A64, H⟩ := H); (obtain rfl := Option.some.inj H); (have hcz65_0 := cz BK101.out 0); (have hcz65_1 := cz BK101.out 1); (have hcz65_2 := cz BK101.out 2); (have hcz65_3 := cz BK101.out 3); (have hcz65_4 := cz BK101.out 4); (have hcz65_5 := cz BK101.out 5); (have hcz65_6 := cz BK101.out 6); (have hfz65_0 := blk_frozen BK101.out 0); (have hfz65_1 := blk_frozen BK101.out 1); (have hfz65_2 := blk_frozen BK101.out 2); (have hfz65_3 := blk_frozen BK101.out 3); (have hfz65_4 := blk_frozen BK101.out 4); (have hfz65_5 := blk_frozen BK101.out 5); (have hfz65_6 := blk_frozen BK101.out 6)
      (go_wp2_with (first | ((with_reducible refine gate_dst (N := 53) rfl ?_); refine Kd.R_lit Kd.string _ 9 ?hg (N := 53) ?hd (xs := ([(⟨#[105, 102]⟩ : ByteArray), a0_6] : List ByteArray)) (inner := [.string (⟨#[105, 102]⟩ : ByteArray), .string a0_6]) (ok := fun _ => True) (okp := fun _ => True) ?hr ?hp (fun _ hk => hk) trivial (Below.refl _ _) (Nat.le_refl _) (by simp) ?_; (case hd => rfl); (case hg => rfl); (case hr => first | (go_simp; done) | (go_simp; rfl)); (case hp => exact (Reps.one (show Kd.M Kd.string _ _ _ (⟨#[105, 102]⟩ : ByteArray) [.string (⟨#[105, 102]⟩ : ByteArray)] from rfl) (Reps.one (show Kd.M Kd.string _ _ _ a0_6 [.string a0_6] from rfl) (Reps.none _ _)))); intro v143 w66 ho67 hb hg_ hnew_; clear hg_ hnew_; (first | rw [← Ny142.out] at ho67 | (simp only [Int.reduceToNat] at ho67; rw [← Ny142.out] at ho67)); have n0_ := Aside0.mk (Kd.R_elder' (rI HO_3) (Kd.R_base ho67) hb); have hB_ := zI hb HB; have n1_ := Aside0.mk (Kd.R_lower (Kd.R_new' ho67 (Kd.R_lt (rI HO_3))) (below_size hB_)); have n2_ := Aside0.mk (kbI hb BK101); have n3_ := Aside0.mk (below_step hB_ hb); clear HO_3 BK101 HB; have HO_3 := n0_; have HO144 := n1_; have BK101 := n2_; have HB := n3_; clear n0_ n1_ n2_ n3_ hB_ hb ho67; obtain ⟨Ao69, co69, eo69⟩ := Kd.R_slice HO144.out; subst eo69) | ((with_reducible refine gate_builtin (b := .append) (xs := #[.tmp 50, .tmp 53]) rfl ?_); at_builtin; refine Kd.R_append_rows Kd.string (w0 := w) w.heap.size rfl (.tmp 50) (.tmp 53) 51 9 (.string ⟨#[]⟩) 16 rfl Tryd.underlying51 info9 rfl (by decide) (by omega) u3 x3_1 y142 _ _ _ (fun k_ => some k_ ≠ (.slice Ao69 y142.length co69 : Value).ownBlock) (fun _ => False) rfl rfl ?aO ?aR (fun _ _ h => h) (fun _ h => h.elim) ?aF ?aB ?aS ?aL ?_; (case aR => repeat (first | exact (Kd.R_reads' HO144.out).2.2 | (with_reducible first | refine cA ?_ _ | refine cN ?_ _ | refine cD ?_))); (case aB => exact (eI HB)); (case aF => exact (fun k_ hk => Kd.fresh' (Kd.R_lt (rI HO144)) k_ hk)); (case aO => exact (by (with_reducible repeat (first | apply rA | apply rN | apply rD)); exact Kd.R_mono HO_3.out (fun _ hk => hk.2))); (case aS => exact (below_size (eI HB))); (case aL => have := LMc63.out; omega); intro v146 w68 ho hb hg hat; rw [← Ny145.out] at ho; have n0_ := Aside0.mk (blk_grown (kI BK101) hg (Kd.R_ne HO_3.out BK101.out (by decide))); have n1_ := Aside0.mk (Kd.R_after (ok := (fun _ => True)) (rI HO144) hg hat); have n2_ := Aside0.mk (hb); have n3_ := Aside0.mk (ho); clear BK101 HO144 HB HO_3; have BK101 := n0_; have HO144 := n1_; have HB := n2_; have HO147 := n3_; clear n0_ n1_ n2_ n3_ ho hb hg hat; obtain ⟨Ao70, co70, eo70⟩ := Kd.R_slice HO147.out; subst eo70) | ((with_reducible refine gate_callee (f := 86) rfl ?_); refine gL (some 56) Tryd.func86 #[.slice Ao70 y145.length co70, .string (⟨#[32]⟩ : ByteArray)] ?_; (with_reducible refine (strings_Join.calls _ _ y145 (⟨#[32]⟩ : ByteArray) t148 _ ?side1 ?side2 A64.out).mono ?_); (case side1 => repeat (first | exact (Kd.R_reads' HO147.out).2.2 | (with_reducible first | refine cA ?_ _ | refine cN ?_ _ | refine cD ?_))); (case side2 => exact (Kd.R_reads' HO147.out).2.1); rintro e w71 ⟨rfl, hb⟩; refine ⟨_, rfl, ?_⟩; have n0_ := Aside0.mk (rbI hb HO144); have n1_ := Aside0.mk (rbI hb HO147); have n2_ := Aside0.mk (kbI hb BK101); have n3_ := Aside0.mk (sI hb HB); clear HO144 HO147 BK101 HB; have HO144 := n0_; have HO147 := n1_; have BK101 := n2_; have HB := n3_; clear n0_ n1_ n2_ n3_; (try clear hb); (try clear hb2); (try clear hk); (try clear hi)))); go_ret; (exact ⟨rfl, eI HB⟩)
     ·rw [if_neg c63] at H
      exact absurd H (by simp)
/-! ### impl_withNewlines: function 49 -/
def impl_withNewlines.l0 : Nat → ByteArray → List ByteArray → Int → Int → Option (ByteArray)
 | 0, _, _, _, _ => none
 | k + 1, x3, x6, x7, x8 => if x8 < x7 then (if 0 ≤ x8 then (if x8 < (x6.length : Int) then (if (rdOf ByteArray.empty x6 x8).size + 1 ≤ 9223372036854775807 then (if x3.size + ((rdOf ByteArray.empty x6 x8) ++ (⟨#[10]⟩ : ByteArray)).size ≤ 9223372036854775807 then (impl_withNewlines.l0 k (x3 ++ ((rdOf ByteArray.empty x6 x8) ++ (⟨#[10]⟩ : ByteArray))) x6 x7 (wrap64 (x8 + 1))) else (none)) else (none)) else (none)) else (none)) else (some x3)
def impl_withNewlines.f (k : Nat) (l0 : List ByteArray) : Option (ByteArray) := impl_withNewlines.l0 k (⟨#[]⟩ : ByteArray) l0 (l0.length : Int) 0
set_option maxHeartbeats 8000000 in
set_option maxRecDepth 100000 in
theorem impl_withNewlines.calls (k : Nat) (A0 : Option Addr) (c0 : Nat) (l0 : List ByteArray) (r : ByteArray) (w : World) (hr0 : Kd.C Kd.string w A0 l0.length l0) (hc0 : l0.length ≤ c0) (h : impl_withNewlines.f k l0 = some r) :
  Calls Tryd.prog 49 #[.slice A0 l0.length c0] w fun e w' => e = .returned (.string r) ∧ Drawn0 w w' := by
 (have HR0 := Aside0.mk hr0); (have HC0 := Aside0.mk hc0); clear hr0 hc0; (unfold impl_withNewlines.f at h); (have H := h); clear h; (have H' := Aside0.mk H); clear H; (go_enter Tryd.func49, Tryd.ntmps49); (go_wp2); (go_loopg [3, 8] k (fun kq v3 v8 w' => ∃ (x3_1 : ByteArray) (x8_1 : Int), v3 = .string x3_1 ∧ v8 = .int .i64 x8_1 ∧ Aside0 (impl_withNewlines.l0 kq x3_1 l0 (l0.length : Int) x8_1 = some r) ∧ Aside0 (kq ≤ k) ∧ Drawn0 w w'))
 case atStart => exact ⟨((⟨#[]⟩ : ByteArray)), (0), (by first | rfl | (simp; done) | (simp [*]; done)), (by first | rfl | (simp; done) | (simp [*]; done)), H', ⟨Nat.le_refl _⟩, by repeat (first | exact Drawn0.refl _ | apply Drawn0.step)⟩
 case round =>
  (clear H'); (obtain ⟨x3_1, x8_1, rfl, rfl, HA, HK1, ⟨m1, rfl⟩⟩ := hrel)
  cases gk with
  | zero => exact absurd HA.out (by simp [impl_withNewlines.l0])
  | succ k1 =>
   (have H := HA.out); clear HA; (simp only [impl_withNewlines.l0] at H); (by_cases c2 : x8_1 < (l0.length : Int))
   ·rw [if_pos c2] at H
    (have c2b0 := decide_eq_true c2); clear c2; (by_cases c3 : 0 ≤ x8_1)
    ·rw [if_pos c3] at H
     (have c3b0 := decide_eq_true c3); clear c3; (by_cases c4 : x8_1 < (l0.length : Int))
     ·rw [if_pos c4] at H
      (have c4b0 := decide_eq_true c4); clear c4; (by_cases c5 : (rdOf ByteArray.empty l0 x8_1).size + 1 ≤ 9223372036854775807)
      ·rw [if_pos c5] at H
       (have c5b0 := eq_true c5); (have c5b1 := decide_eq_true c5); (try have c5b2 : (9223372036854775807 < (rdOf ByteArray.empty l0 x8_1).size + 1) = False := eq_false (Nat.not_lt.2 c5)); (by_cases c6 : x3_1.size + ((rdOf ByteArray.empty l0 x8_1) ++ (⟨#[10]⟩ : ByteArray)).size ≤ 9223372036854775807)
       ·rw [if_pos c6] at H
        (have c6b0 := eq_true c6); (have c6b1 := decide_eq_true c6); (try have c6n0 := c6b0); (try (push_cast [Int.toNat_natCast, ByteArray.size_append, show (⟨#[10]⟩ : ByteArray).size = 1 from rfl] at c6n0)); (try have c6n1 := c6b1); (try (push_cast [Int.toNat_natCast, ByteArray.size_append, show (⟨#[10]⟩ : ByteArray).size = 1 from rfl] at c6n1)); (try have c6b2 : (9223372036854775807 < x3_1.size + ((rdOf ByteArray.empty l0 x8_1) ++ (⟨#[10]⟩ : ByteArray)).size) = False := eq_false (Nat.not_lt.2 c6)); (try have c6b3 := c6b2); (try simp only [ByteArray.size_append, show (⟨#[10]⟩ : ByteArray).size = 1 from rfl] at c6b3); (have H' := Aside0.mk H); clear H; (have p101 : 0 ≤ (x8_1 : Int) := odt); (have q101 : x8_1 < (l0.length : Int) := odt); (obtain ⟨ad101, e101, hx101_0⟩ := Kd.at_string HR0.out x8_1 p101 q101); (cases e101); (replace p101 := eq_true p101); (replace q101 := eq_true q101); (go_wp2); go_roundg k1
        case measure => have := HK1.out; omega
        case rel => exact ⟨(x3_1 ++ ((rdOf ByteArray.empty l0 x8_1) ++ (⟨#[10]⟩ : ByteArray))), (wrap64 (x8_1 + 1)), (by first | rfl | (simp; done) | (simp [*]; done)), (by first | rfl | (simp; done) | (simp [*]; done)), H', ⟨by have := HK1.out; omega⟩, by repeat (first | exact Drawn0.refl _ | apply Drawn0.step)⟩
       ·rw [if_neg c6] at H
        exact absurd H (by simp)
      ·rw [if_neg c5] at H
       exact absurd H (by simp)
     ·rw [if_neg c4] at H
      exact absurd H (by simp)
    ·rw [if_neg c3] at H
     exact absurd H (by simp)
   ·rw [if_neg c2] at H
    (have c2b0 := decide_eq_false c2); clear c2; (obtain rfl := Option.some.inj H); (go_wp2); go_ret; (exact ⟨by first | rfl | (simp; done) | (simp [*]; done), by repeat (first | exact Drawn0.refl _ | apply Drawn0.step)⟩)
/-! ### impl_FormatForm: function 12 -/
def impl_FormatForm.l0 : Nat → List ByteArray → List (S69) → Int → Int → Option (ByteArray × Bool)
 | 0, _, _, _, _ => none
 | k + 1, x4, x11, x12, x13 => if x13 < x12 then (if 0 ≤ x13 then (if x13 < (x11.length : Int) then ((slices_Contains_string_string.f k ((rd_T69 x11 x13).f4) (⟨#[110, 101, 101, 100, 101, 100]⟩ : ByteArray)).bind fun t108 => (if t108 = true then (some ((⟨#[]⟩ : ByteArray), false)) else ((slices_Contains_string_string.f k ((rd_T69 x11 x13).f4) (⟨#[105, 102]⟩ : ByteArray)).bind fun t109 => (if t109 = true then (some ((⟨#[]⟩ : ByteArray), false)) else ((impl_fieldLine.f k ((rd_T69 x11 x13).f0) ((rd_T69 x11 x13).f1) ((rd_T69 x11 x13).f2) ((rd_T69 x11 x13).f3) ((rd_T69 x11 x13).f4) ((rd_T69 x11 x13).f5) ((rd_T69 x11 x13).f6)).bind fun t110 => (if x4.length < 8796093022208 then (impl_FormatForm.l0 k (x4 ++ [t110]) x11 x12 (wrap64 (x13 + 1))) else (none))))))) else (none)) else (none)) else ((impl_withNewlines.f k x4).bind fun t105 => (some (t105, true)))
def impl_FormatForm.f (k : Nat) (l0 : List (S69)) : Option (ByteArray × Bool) := (impl_IsValidForm.f k l0).bind fun t101 => (if t101 = true then (impl_FormatForm.l0 k (([] : List ByteArray)) l0 (l0.length : Int) 0) else (some ((⟨#[]⟩ : ByteArray), false)))
set_option maxHeartbeats 8000000 in
set_option maxRecDepth 100000 in
theorem impl_FormatForm.calls (k : Nat) (A0 : Option Addr) (c0 : Nat) (l0 : List (S69)) (r1 : ByteArray) (r2 : Bool) (w : World) (hr0 : Kd.C k69 w A0 l0.length l0) (hc0 : l0.length ≤ c0) (hG : GT w) (h : impl_FormatForm.f k l0 = some (r1, r2)) :
  Calls Tryd.prog 12 #[.slice A0 l0.length c0] w fun e w' => e = .returned (.tuple #[.string r1, .bool r2]) ∧ Below w.heap.size w w' := by
 (have hu69 := Tryd.underlying69); (have HR0 := Aside0.mk hr0); (have HC0 := Aside0.mk hc0); clear hr0 hc0; (have HG := Aside0.mk hG); clear hG; (have HB := Aside0.mk (Below.refl w.heap.size w)); (unfold impl_FormatForm.f at h); (have H := h); clear h; (replace H := obS H); (obtain ⟨t101, A2, H⟩ := H); (by_cases c3 : t101 = true)
 ·subst c3
  (rw [if_pos rfl] at H); (obtain ⟨y102, hy102⟩ : ∃ y_ : List ByteArray, y_ = (([] : List ByteArray)) := ⟨_, rfl⟩); (replace H : (impl_FormatForm.l0 k y102 l0 (l0.length : Int) 0) = some (r1, r2) := by first | (rw [hy102]; with_reducible exact H) | (have H2_ := (Option.bind_some _ _).symm.trans H; rw [hy102]; with_reducible exact H2_) | (have H2_ := (Option.bind_some _ _).symm.trans H; with_reducible exact H2_) | with_reducible exact H | (rw [hy102]; exact H) | exact H); (have Ny102 := Aside0.mk hy102); clear hy102; (have H' := Aside0.mk H); clear H; (go_enter Tryd.func12, Tryd.ntmps12); (go_wp2_with (first | ((with_reducible refine gate_callee (f := 37) rfl ?_); refine gL (some 8) Tryd.func37 #[.slice A0 l0.length c0] ?_; (with_reducible refine (impl_IsValidForm.calls k _ _ l0 true _ ?side1 ?side2 A2.out).mono ?_); (case side1 => exact cI HR0.out); (case side2 => exact HC0.out); rintro e w4 ⟨rfl, hb⟩; refine ⟨_, rfl, ?_⟩; have n0_ := Aside0.mk (sI hb HB); clear HB; have HB := n0_; clear n0_; (try clear hb); (try clear hb2); (try clear hk); (try clear hi)) | ((with_reducible refine gate_dst (N := 10) rfl ?_); refine Kd.R_lit Kd.string _ 9 ?hg (N := 10) ?hd (xs := ([] : List ByteArray)) (inner := []) (ok := fun _ => True) (okp := fun _ => True) ?hr ?hp (fun _ hk => hk) trivial (Below.refl _ _) (Nat.le_refl _) (by simp) ?_; (case hd => rfl); (case hg => rfl); (case hr => first | (go_simp; done) | (go_simp; rfl)); (case hp => exact (Reps.none _ _)); intro v103 w5 ho6 hb hg_ hnew_; clear hg_ hnew_; (first | rw [← Ny102.out] at ho6 | (simp only [Int.reduceToNat] at ho6; rw [← Ny102.out] at ho6)); have hB_ := zI hb HB; have n0_ := Aside0.mk (Kd.R_lower ho6 (below_size hB_)); have n1_ := Aside0.mk (below_step hB_ hb); clear HB; have HO104 := n0_; have HB := n1_; clear n0_ n1_ hB_ hb ho6))); (go_loopg [4, 13] k (fun kq v4 v13 w' => ∃ (x4_1 : List ByteArray) (x13_1 : Int), v13 = .int .i64 x13_1 ∧ Aside0 (impl_FormatForm.l0 kq x4_1 l0 (l0.length : Int) x13_1 = some (r1, r2)) ∧ Aside0 (kq ≤ k) ∧ Aside0 (Kd.R Kd.string 9 w' w.heap.size (fun _ => True) v4 x4_1) ∧ Aside0 (Below w.heap.size w w')))
  case atStart => exact ⟨(y102), (0), (by first | rfl | (simp; done) | (simp [*]; done)), H', ⟨Nat.le_refl _⟩, ⟨rI HO104⟩, ⟨eI HB⟩⟩
  case round =>
   (clear H'); (try clear c1); (try clear p2); (try clear c3); (obtain ⟨x4_1, x13_1, rfl, HA, HK1, HO_4, HB⟩ := hrel)
   cases gk with
   | zero => exact absurd HA.out (by simp [impl_FormatForm.l0])
   | succ k1 =>
    (have H := HA.out); clear HA; (simp only [impl_FormatForm.l0] at H); (by_cases c7 : x13_1 < (l0.length : Int))
    ·rw [if_pos c7] at H
     (have c7b0 := decide_eq_true c7); clear c7; (by_cases c8 : 0 ≤ x13_1)
     ·rw [if_pos c8] at H
      (have c8b0 := decide_eq_true c8); clear c8; (by_cases c9 : x13_1 < (l0.length : Int))
      ·rw [if_pos c9] at H
       (have c9b0 := decide_eq_true c9); clear c9; (replace H := obS H); (obtain ⟨t108, A10, H⟩ := H); (by_cases c11 : t108 = true)
       ·subst c11
        (rw [if_pos rfl] at H); (simp only [Option.some.injEq, Prod.mk.injEq] at H); (obtain ⟨rfl, rfl⟩ := H); (have p106 : 0 ≤ (x13_1 : Int) := of_decide_eq_true (by first | (with_reducible assumption) | assumption)); (have q106 : x13_1 < (l0.length : Int) := of_decide_eq_true (by first | (with_reducible assumption) | assumption)); (obtain ⟨ad106, A106_4, c106_4, e106, hx106_0, hx106_1, hx106_2, hx106_3, hx106_4, hx106_5, hx106_6, hl106_4, hi106_4⟩ := at_T69 HR0.out x13_1 p106 q106); (cases e106); (replace hx106_0 := (HB.out.cell (bltc w _ hx106_0)).trans hx106_0); (replace hx106_1 := (HB.out.cell (bltc w _ hx106_1)).trans hx106_1); (replace hx106_2 := (HB.out.cell (bltc w _ hx106_2)).trans hx106_2); (replace hx106_3 := (HB.out.cell (bltc w _ hx106_3)).trans hx106_3); (replace hx106_4 := (HB.out.cell (bltc w _ hx106_4)).trans hx106_4); (replace hx106_5 := (HB.out.cell (bltc w _ hx106_5)).trans hx106_5); (replace hx106_6 := (HB.out.cell (bltc w _ hx106_6)).trans hx106_6); (have HR106_4 := Aside0.mk hi106_4); (have HC106_4 := Aside0.mk hl106_4); clear hi106_4 hl106_4; (replace p106 := eq_true p106); (replace q106 := eq_true q106); (go_wp2_with (first | ((with_reducible refine gate_dst (N := 6) rfl ?_); refine box_event ?hg (N := 6) ?hd (cs := #[.string (⟨#[]⟩ : ByteArray), .int .i64 0, .int .i64 0, .int .i64 0, .slice none 0 0, .bool false, .string (⟨#[]⟩ : ByteArray)]) (t := 69) ?hr ?_; (case hd => rfl); (case hg => rfl); (case hr => first | (go_simp; done) | (go_simp; rfl)); intro gb107 hg w12 hbox hb; have n0_ := Aside0.mk (Kd.R_below (by (with_reducible repeat (first | apply rA | apply rN | apply rD)); exact HO_4.out) hb); have hB_ := bz (by repeat (first | (with_reducible first | exact HB.out | apply bA | apply bN | apply bD) | exact HB.out)) hb; have n1_ := Aside0.mk (below_step hB_ hb); have n2_ := Aside0.mk (hbox); have n3_ := Aside0.mk ((by rw [hg]; exact (below_size hB_) : w.heap.size ≤ gb107)); have n4_ := n3_; clear HO_4 HB; have HO_4 := n0_; have HB := n1_; have BK107 := n2_; have GW107 := n3_; have GE107 := n4_; clear n0_ n1_ n2_ n3_ n4_ hB_ hb hbox hg; have hcz13_0 := cz BK107.out 0; have hcz13_1 := cz BK107.out 1; have hcz13_2 := cz BK107.out 2; have hcz13_3 := cz BK107.out 3; have hcz13_4 := cz BK107.out 4; have hcz13_5 := cz BK107.out 5; have hcz13_6 := cz BK107.out 6; have hfz13_0 := blk_frozen BK107.out 0; have hfz13_1 := blk_frozen BK107.out 1; have hfz13_2 := blk_frozen BK107.out 2; have hfz13_3 := blk_frozen BK107.out 3; have hfz13_4 := blk_frozen BK107.out 4; have hfz13_5 := blk_frozen BK107.out 5; have hfz13_6 := blk_frozen BK107.out 6) | ((with_reducible refine gate_callee (f := 47) rfl ?_); refine gL (some 19) Tryd.func47 #[.slice A106_4 ((rd_T69 l0 x13_1).f4).length c106_4, .string (⟨#[110, 101, 101, 100, 101, 100]⟩ : ByteArray)] ?_; (with_reducible refine (slices_Contains_string_string.calls k1 _ _ ((rd_T69 l0 x13_1).f4) (⟨#[110, 101, 101, 100, 101, 100]⟩ : ByteArray) true _ ?side1 ?side2 A10.out).mono ?_); (case side1 => exact Kd.C_below HR106_4.out (by repeat (first | (with_reducible first | exact HB.out | apply bA | apply bN | apply bD | refine below_set ?_ GE107.out) | exact HB.out))); (case side2 => exact HC106_4.out); rintro e w' ⟨rfl, ⟨nd, rfl⟩⟩; refine ⟨_, rfl, ?_⟩))); (go_ret2); (exact ⟨by first | rfl | (simp [errW_none, errW_some] <;> rfl) | (simp [*, errW_none, errW_some] <;> rfl), by repeat (first | (with_reducible first | exact HB.out | apply bA | apply bN | apply bD | refine below_set ?_ GE107.out) | exact HB.out)⟩)
       ·replace c11 := Bool.eq_false_iff.mpr c11
        subst c11; (rw [if_neg (show ¬ (false = true) by decide)] at H); (replace H := obS H); (obtain ⟨t109, A14, H⟩ := H); (by_cases c15 : t109 = true)
        ·subst c15
         (rw [if_pos rfl] at H); (simp only [Option.some.injEq, Prod.mk.injEq] at H); (obtain ⟨rfl, rfl⟩ := H); (have p106 : 0 ≤ (x13_1 : Int) := of_decide_eq_true (by first | (with_reducible assumption) | assumption)); (have q106 : x13_1 < (l0.length : Int) := of_decide_eq_true (by first | (with_reducible assumption) | assumption)); (obtain ⟨ad106, A106_4, c106_4, e106, hx106_0, hx106_1, hx106_2, hx106_3, hx106_4, hx106_5, hx106_6, hl106_4, hi106_4⟩ := at_T69 HR0.out x13_1 p106 q106); (cases e106); (replace hx106_0 := (HB.out.cell (bltc w _ hx106_0)).trans hx106_0); (replace hx106_1 := (HB.out.cell (bltc w _ hx106_1)).trans hx106_1); (replace hx106_2 := (HB.out.cell (bltc w _ hx106_2)).trans hx106_2); (replace hx106_3 := (HB.out.cell (bltc w _ hx106_3)).trans hx106_3); (replace hx106_4 := (HB.out.cell (bltc w _ hx106_4)).trans hx106_4); (replace hx106_5 := (HB.out.cell (bltc w _ hx106_5)).trans hx106_5); (replace hx106_6 := (HB.out.cell (bltc w _ hx106_6)).trans hx106_6); (have HR106_4 := Aside0.mk hi106_4); (have HC106_4 := Aside0.mk hl106_4); clear hi106_4 hl106_4; (replace p106 := eq_true p106); (replace q106 := eq_true q106); (go_wp2_with (first | ((with_reducible refine gate_dst (N := 6) rfl ?_); refine box_event ?hg (N := 6) ?hd (cs := #[.string (⟨#[]⟩ : ByteArray), .int .i64 0, .int .i64 0, .int .i64 0, .slice none 0 0, .bool false, .string (⟨#[]⟩ : ByteArray)]) (t := 69) ?hr ?_; (case hd => rfl); (case hg => rfl); (case hr => first | (go_simp; done) | (go_simp; rfl)); intro gb107 hg w16 hbox hb; have n0_ := Aside0.mk (Kd.R_below (by (with_reducible repeat (first | apply rA | apply rN | apply rD)); exact HO_4.out) hb); have hB_ := bz (by repeat (first | (with_reducible first | exact HB.out | apply bA | apply bN | apply bD) | exact HB.out)) hb; have n1_ := Aside0.mk (below_step hB_ hb); have n2_ := Aside0.mk (hbox); have n3_ := Aside0.mk ((by rw [hg]; exact (below_size hB_) : w.heap.size ≤ gb107)); have n4_ := n3_; clear HO_4 HB; have HO_4 := n0_; have HB := n1_; have BK107 := n2_; have GW107 := n3_; have GE107 := n4_; clear n0_ n1_ n2_ n3_ n4_ hB_ hb hbox hg; have hcz17_0 := cz BK107.out 0; have hcz17_1 := cz BK107.out 1; have hcz17_2 := cz BK107.out 2; have hcz17_3 := cz BK107.out 3; have hcz17_4 := cz BK107.out 4; have hcz17_5 := cz BK107.out 5; have hcz17_6 := cz BK107.out 6; have hfz17_0 := blk_frozen BK107.out 0; have hfz17_1 := blk_frozen BK107.out 1; have hfz17_2 := blk_frozen BK107.out 2; have hfz17_3 := blk_frozen BK107.out 3; have hfz17_4 := blk_frozen BK107.out 4; have hfz17_5 := blk_frozen BK107.out 5; have hfz17_6 := blk_frozen BK107.out 6) | ((with_reducible refine gate_callee (f := 47) rfl ?_); refine gL (some 19) Tryd.func47 #[.slice A106_4 ((rd_T69 l0 x13_1).f4).length c106_4, .string (⟨#[110, 101, 101, 100, 101, 100]⟩ : ByteArray)] ?_; (with_reducible refine (slices_Contains_string_string.calls k1 _ _ ((rd_T69 l0 x13_1).f4) (⟨#[110, 101, 101, 100, 101, 100]⟩ : ByteArray) false _ ?side1 ?side2 A10.out).mono ?_); (case side1 => exact Kd.C_below HR106_4.out (by repeat (first | (with_reducible first | exact HB.out | apply bA | apply bN | apply bD | refine below_set ?_ GE107.out) | exact HB.out))); (case side2 => exact HC106_4.out); rintro e w' ⟨rfl, ⟨nd, rfl⟩⟩; refine ⟨_, rfl, ?_⟩) | (go_at_call 47; (with_reducible refine (slices_Contains_string_string.calls k1 _ _ ((rd_T69 l0 x13_1).f4) (⟨#[105, 102]⟩ : ByteArray) true _ ?side1 ?side2 A14.out).mono ?_); (case side1 => exact Kd.C_below HR106_4.out (by repeat (first | (with_reducible first | exact HB.out | apply bA | apply bN | apply bD | refine below_set ?_ GE107.out) | exact HB.out))); (case side2 => exact HC106_4.out); rintro e w' ⟨rfl, ⟨nd, rfl⟩⟩))); (go_ret2); (exact ⟨by first | rfl | (simp [errW_none, errW_some] <;> rfl) | (simp [*, errW_none, errW_some] <;> rfl), by repeat (first | (with_reducible first | exact HB.out | apply bA | apply bN | apply bD | refine below_set ?_ GE107.out) | exact HB.out)⟩)
        ·replace c15 := Bool.eq_false_iff.mpr c15
         subst c15; (rw [if_neg (show ¬ (false = true) by decide)] at H); (replace H := obS H); (obtain ⟨t110, A18, H⟩ := H); (by_cases c19 : x4_1.length < 8796093022208)
         ·rw [if_pos c19] at H
          (have LMc19 := Aside0.mk c19); clear c19; (obtain ⟨y111, hy111⟩ : ∃ y_ : List ByteArray, y_ = (x4_1 ++ [t110]) := ⟨_, rfl⟩); (replace H : (impl_FormatForm.l0 k1 y111 l0 (l0.length : Int) (wrap64 (x13_1 + 1))) = some (r1, r2) := by first | (rw [hy111]; with_reducible exact H) | (have H2_ := (Option.bind_some _ _).symm.trans H; rw [hy111]; with_reducible exact H2_) | (have H2_ := (Option.bind_some _ _).symm.trans H; with_reducible exact H2_) | with_reducible exact H | (rw [hy111]; exact H) | exact H); (have Ny111 := Aside0.mk hy111); clear hy111; (have H' := Aside0.mk H); clear H; (have p106 : 0 ≤ (x13_1 : Int) := of_decide_eq_true (by first | (with_reducible assumption) | assumption)); (have q106 : x13_1 < (l0.length : Int) := of_decide_eq_true (by first | (with_reducible assumption) | assumption)); (obtain ⟨ad106, A106_4, c106_4, e106, hx106_0, hx106_1, hx106_2, hx106_3, hx106_4, hx106_5, hx106_6, hl106_4, hi106_4⟩ := at_T69 HR0.out x13_1 p106 q106); (cases e106); (replace hx106_0 := (HB.out.cell (bltc w _ hx106_0)).trans hx106_0); (replace hx106_1 := (HB.out.cell (bltc w _ hx106_1)).trans hx106_1); (replace hx106_2 := (HB.out.cell (bltc w _ hx106_2)).trans hx106_2); (replace hx106_3 := (HB.out.cell (bltc w _ hx106_3)).trans hx106_3); (replace hx106_4 := (HB.out.cell (bltc w _ hx106_4)).trans hx106_4); (replace hx106_5 := (HB.out.cell (bltc w _ hx106_5)).trans hx106_5); (replace hx106_6 := (HB.out.cell (bltc w _ hx106_6)).trans hx106_6); (have HR106_4 := Aside0.mk hi106_4); (have HC106_4 := Aside0.mk hl106_4); clear hi106_4 hl106_4; (replace p106 := eq_true p106); (replace q106 := eq_true q106)
          go_wp2_with (first | ((with_reducible refine gate_dst (N := 6) rfl ?_); refine box_event ?hg (N := 6) ?hd (cs := #[.string (⟨#[]⟩ : ByteArray), .int .i64 0, .int .i64 0, .int .i64 0, .slice none 0 0, .bool false, .string (⟨#[]⟩ : ByteArray)]) (t := 69) ?hr ?_; (case hd => rfl); (case hg => rfl); (case hr => first | (go_simp; done) | (go_simp; rfl)); intro gb107 hg w20 hbox hb; have n0_ := Aside0.mk (Kd.R_below (by (with_reducible repeat (first | apply rA | apply rN | apply rD)); exact HO_4.out) hb); have hB_ := bz (by repeat (first | (with_reducible first | exact HB.out | apply bA | apply bN | apply bD) | exact HB.out)) hb; have n1_ := Aside0.mk (below_step hB_ hb); have n2_ := Aside0.mk (hbox); have n3_ := Aside0.mk ((by rw [hg]; exact (below_size hB_) : w.heap.size ≤ gb107)); have n4_ := n3_; clear HO_4 HB; have HO_4 := n0_; have HB := n1_; have BK107 := n2_; have GW107 := n3_; have GE107 := n4_; clear n0_ n1_ n2_ n3_ n4_ hB_ hb hbox hg; have hcz21_0 := cz BK107.out 0; have hcz21_1 := cz BK107.out 1; have hcz21_2 := cz BK107.out 2; have hcz21_3 := cz BK107.out 3; have hcz21_4 := cz BK107.out 4; have hcz21_5 := cz BK107.out 5; have hcz21_6 := cz BK107.out 6; have hfz21_0 := blk_frozen BK107.out 0; have hfz21_1 := blk_frozen BK107.out 1; have hfz21_2 := blk_frozen BK107.out 2; have hfz21_3 := blk_frozen BK107.out 3; have hfz21_4 := blk_frozen BK107.out 4; have hfz21_5 := blk_frozen BK107.out 5; have hfz21_6 := blk_frozen BK107.out 6) | ((with_reducible refine gate_callee (f := 47) rfl ?_); refine gL (some 19) Tryd.func47 #[.slice A106_4 ((rd_T69 l0 x13_1).f4).length c106_4, .string (⟨#[110, 101, 101, 100, 101, 100]⟩ : ByteArray)] ?_; (with_reducible refine (slices_Contains_string_string.calls k1 _ _ ((rd_T69 l0 x13_1).f4) (⟨#[110, 101, 101, 100, 101, 100]⟩ : ByteArray) false _ ?side1 ?side2 A10.out).mono ?_); (case side1 => exact Kd.C_below HR106_4.out (by repeat (first | (with_reducible first | exact HB.out | apply bA | apply bN | apply bD | refine below_set ?_ GE107.out) | exact HB.out))); (case side2 => exact HC106_4.out); rintro e w' ⟨rfl, ⟨nd, rfl⟩⟩; refine ⟨_, rfl, ?_⟩) | (go_at_call 47; (with_reducible refine (slices_Contains_string_string.calls k1 _ _ ((rd_T69 l0 x13_1).f4) (⟨#[105, 102]⟩ : ByteArray) false _ ?side1 ?side2 A14.out).mono ?_); (case side1 => exact Kd.C_below HR106_4.out (by repeat (first | (with_reducible first | exact HB.out | apply bA | apply bN | apply bD | refine below_set ?_ GE107.out) | exact HB.out))); (case side2 => exact HC106_4.out); rintro e w' ⟨rfl, ⟨nd, rfl⟩⟩) | ((with_reducible refine gate_callee (f := 48) rfl ?_); refine gL (some 27) Tryd.func48 #[.agg #[.string ((rd_T69 l0 x13_1).f0), .int .i64 ((rd_T69 l0 x13_1).f1), .int .i64 ((rd_T69 l0 x13_1).f2), .int .i64 ((rd_T69 l0 x13_1).f3), .slice A106_4 ((rd_T69 l0 x13_1).f4).length c106_4, .bool ((rd_T69 l0 x13_1).f5), .string ((rd_T69 l0 x13_1).f6)]] ?_; (with_reducible refine (impl_fieldLine.calls k1 ((rd_T69 l0 x13_1).f0) ((rd_T69 l0 x13_1).f1) ((rd_T69 l0 x13_1).f2) ((rd_T69 l0 x13_1).f3) _ _ ((rd_T69 l0 x13_1).f4) ((rd_T69 l0 x13_1).f5) ((rd_T69 l0 x13_1).f6) t110 _ ?side1 ?side2 ?side3 A18.out).mono ?_); (case side1 => exact Kd.C_below HR106_4.out (by repeat (first | (with_reducible first | exact HB.out | apply bA | apply bN | apply bD | refine below_set ?_ GE107.out) | exact HB.out))); (case side2 => exact HC106_4.out); (case side3 => first | exact GT.below HG.out (by repeat (first | (with_reducible first | exact HB.out | apply bA | apply bN | apply bD | refine below_set ?_ GE107.out) | exact HB.out)) | (repeat (first | exact HG.out | (with_reducible first | apply GT.drewN | apply GT.drew | apply GT.alloc)))); rintro e w22 ⟨rfl, hb⟩; refine ⟨_, rfl, ?_⟩; have n0_ := Aside0.mk (Kd.R_below (by (with_reducible repeat (first | apply rA | apply rN | apply rD)); exact (Kd.R_mono (Kd.R_far (p := ⟨gb107, 6, none⟩) (Kd.R_far (p := ⟨gb107, 5, none⟩) (Kd.R_far (p := ⟨gb107, 4, none⟩) (Kd.R_far (p := ⟨gb107, 3, none⟩) (Kd.R_far (p := ⟨gb107, 2, none⟩) (Kd.R_far (p := ⟨gb107, 1, none⟩) (Kd.R_far (p := ⟨gb107, 0, none⟩) (Kd.R_types HO_4.out BK107.out (by decide)) (fun _ hk => hk.2) (.string ((rd_T69 l0 x13_1).f0))) (fun _ hk => hk.2) (.int .i64 ((rd_T69 l0 x13_1).f1))) (fun _ hk => hk.2) (.int .i64 ((rd_T69 l0 x13_1).f2))) (fun _ hk => hk.2) (.int .i64 ((rd_T69 l0 x13_1).f3))) (fun _ hk => hk.2) (.slice A106_4 ((rd_T69 l0 x13_1).f4).length c106_4)) (fun _ hk => hk.2) (.bool ((rd_T69 l0 x13_1).f5))) (fun _ hk => hk.2) (.string ((rd_T69 l0 x13_1).f6))) (fun _ h_ => h_.1))) hb); have n1_ := Aside0.mk (blk_below (g := gb107) (o := .cells #[.string ((rd_T69 l0 x13_1).f0), .int .i64 ((rd_T69 l0 x13_1).f1), .int .i64 ((rd_T69 l0 x13_1).f2), .int .i64 ((rd_T69 l0 x13_1).f3), .slice A106_4 ((rd_T69 l0 x13_1).f4).length c106_4, .bool ((rd_T69 l0 x13_1).f5), .string ((rd_T69 l0 x13_1).f6)] 69 (0, 0)) (by (with_reducible repeat (first | refine kN ?_ _ | refine kD ?_ | refine kA ?_ _)); refine blk_put (cs := #[.string ((rd_T69 l0 x13_1).f0), .int .i64 ((rd_T69 l0 x13_1).f1), .int .i64 ((rd_T69 l0 x13_1).f2), .int .i64 ((rd_T69 l0 x13_1).f3), .slice A106_4 ((rd_T69 l0 x13_1).f4).length c106_4, .bool ((rd_T69 l0 x13_1).f5), .string (⟨#[]⟩ : ByteArray)]) ?_ 6 _ rfl; (with_reducible repeat (first | refine kN ?_ _ | refine kD ?_ | refine kA ?_ _)); refine blk_put (cs := #[.string ((rd_T69 l0 x13_1).f0), .int .i64 ((rd_T69 l0 x13_1).f1), .int .i64 ((rd_T69 l0 x13_1).f2), .int .i64 ((rd_T69 l0 x13_1).f3), .slice A106_4 ((rd_T69 l0 x13_1).f4).length c106_4, .bool false, .string (⟨#[]⟩ : ByteArray)]) ?_ 5 _ rfl; (with_reducible repeat (first | refine kN ?_ _ | refine kD ?_ | refine kA ?_ _)); refine blk_put (cs := #[.string ((rd_T69 l0 x13_1).f0), .int .i64 ((rd_T69 l0 x13_1).f1), .int .i64 ((rd_T69 l0 x13_1).f2), .int .i64 ((rd_T69 l0 x13_1).f3), .slice none 0 0, .bool false, .string (⟨#[]⟩ : ByteArray)]) ?_ 4 _ rfl; (with_reducible repeat (first | refine kN ?_ _ | refine kD ?_ | refine kA ?_ _)); refine blk_put (cs := #[.string ((rd_T69 l0 x13_1).f0), .int .i64 ((rd_T69 l0 x13_1).f1), .int .i64 ((rd_T69 l0 x13_1).f2), .int .i64 0, .slice none 0 0, .bool false, .string (⟨#[]⟩ : ByteArray)]) ?_ 3 _ rfl; (with_reducible repeat (first | refine kN ?_ _ | refine kD ?_ | refine kA ?_ _)); refine blk_put (cs := #[.string ((rd_T69 l0 x13_1).f0), .int .i64 ((rd_T69 l0 x13_1).f1), .int .i64 0, .int .i64 0, .slice none 0 0, .bool false, .string (⟨#[]⟩ : ByteArray)]) ?_ 2 _ rfl; (with_reducible repeat (first | refine kN ?_ _ | refine kD ?_ | refine kA ?_ _)); refine blk_put (cs := #[.string ((rd_T69 l0 x13_1).f0), .int .i64 0, .int .i64 0, .int .i64 0, .slice none 0 0, .bool false, .string (⟨#[]⟩ : ByteArray)]) ?_ 1 _ rfl; (with_reducible repeat (first | refine kN ?_ _ | refine kD ?_ | refine kA ?_ _)); refine blk_put (cs := #[.string (⟨#[]⟩ : ByteArray), .int .i64 0, .int .i64 0, .int .i64 0, .slice none 0 0, .bool false, .string (⟨#[]⟩ : ByteArray)]) ?_ 0 _ rfl; (with_reducible repeat (first | refine kN ?_ _ | refine kD ?_ | refine kA ?_ _)); exact BK107.out) hb); have n2_ := Aside0.mk (below_step (by repeat (first | (with_reducible first | exact HB.out | apply bA | apply bN | apply bD | refine below_set ?_ GE107.out) | exact HB.out)) hb); clear HO_4 BK107 HB; have HO_4 := n0_; have BK107 := n1_; have HB := n2_; clear n0_ n1_ n2_; (try clear hb); (try clear hb2); (try clear hk); (try clear hi)) | ((with_reducible refine gate_builtin (b := .append) (xs := #[.tmp 25, .tmp 28]) rfl ?_); at_builtin; refine Kd.R_append Kd.string (w0 := w) w.heap.size rfl (.tmp 25) (.tmp 28) 51 9 (.string ⟨#[]⟩) 16 rfl Tryd.underlying51 info9 rfl (by decide) (by omega) u4 x4_1 t110 [.string t110] (fun _ => True) (fun _ => False) rfl rfl ?aP (fun _ hk => hk.elim) ?aF ?aO ?aB ?aS ?aL ?_; (case aP => exact rfl); (case aB => exact (by repeat (first | (with_reducible first | exact HB.out | apply bA | apply bN | apply bD | refine below_set ?_ GE107.out) | exact HB.out))); (case aF => exact (fun _ _ => trivial)); (case aO => exact (by (with_reducible repeat (first | apply rA | apply rN | apply rD)); exact HO_4.out)); (case aS => exact (below_size (by repeat (first | (with_reducible first | exact HB.out | apply bA | apply bN | apply bD | refine below_set ?_ GE107.out) | exact HB.out)))); (case aL => have := LMc19.out; omega); intro v112 w23 ho hb hg hat; rw [← Ny111.out] at ho; have n0_ := Aside0.mk (blk_grown (by (with_reducible repeat (first | refine kN ?_ _ | refine kD ?_ | refine kA ?_ _)); exact BK107.out) hg (Kd.R_ne HO_4.out BK107.out (by decide))); have n1_ := Aside0.mk (hb); have n2_ := Aside0.mk (ho); clear BK107 HB HO_4; have BK107 := n0_; have HB := n1_; have HO113 := n2_; clear n0_ n1_ n2_ ho hb hg hat))
          go_roundg k1
          case measure => have := HK1.out; omega
          case rel => exact ⟨(y111), (wrap64 (x13_1 + 1)), (by first | rfl | (simp; done) | (simp [*]; done)), H', ⟨by have := HK1.out; omega⟩, ⟨rI HO113⟩, ⟨eI HB⟩⟩
         ·rw [if_neg c19] at H
          exact absurd H (by simp)
      ·rw [if_neg c9] at H
       exact absurd H (by simp)
     ·rw [if_neg c8] at H
      exact absurd H (by simp)
    ·rw [if_neg c7] at H
     (have c7b0 := decide_eq_false c7); clear c7; (replace H := obS H); (obtain ⟨t105, A24, H⟩ := H); (simp only [Option.some.injEq, Prod.mk.injEq] at H); (obtain ⟨rfl, rfl⟩ := H); (obtain ⟨Ao25, co25, eo25⟩ := Kd.R_slice HO_4.out); subst eo25; (go_wp2_with (first | ((with_reducible refine gate_callee (f := 49) rfl ?_); refine gL (some 32) Tryd.func49 #[.slice Ao25 x4_1.length co25] ?_; (with_reducible refine (impl_withNewlines.calls k1 _ _ x4_1 t105 _ ?side1 ?side2 A24.out).mono ?_); (case side1 => repeat (first | exact (Kd.R_reads' HO_4.out).2.2 | (with_reducible first | refine cA ?_ _ | refine cN ?_ _ | refine cD ?_))); (case side2 => exact (Kd.R_reads' HO_4.out).2.1); rintro e w' ⟨rfl, ⟨nd, rfl⟩⟩; refine ⟨_, rfl, ?_⟩))); (go_ret2); (exact ⟨rfl, eI HB⟩)
 ·replace c3 := Bool.eq_false_iff.mpr c3
  subst c3; (rw [if_neg (show ¬ (false = true) by decide)] at H); (simp only [Option.some.injEq, Prod.mk.injEq] at H); (obtain ⟨rfl, rfl⟩ := H); (go_enter Tryd.func12, Tryd.ntmps12); (go_wp2_with (first | ((with_reducible refine gate_callee (f := 37) rfl ?_); refine gL (some 8) Tryd.func37 #[.slice A0 l0.length c0] ?_; (with_reducible refine (impl_IsValidForm.calls k _ _ l0 false _ ?side1 ?side2 A2.out).mono ?_); (case side1 => exact cI HR0.out); (case side2 => exact HC0.out); rintro e w26 ⟨rfl, hb⟩; refine ⟨_, rfl, ?_⟩; have n0_ := Aside0.mk (sI hb HB); clear HB; have HB := n0_; clear n0_; (try clear hb); (try clear hb2); (try clear hk); (try clear hi)))); (go_ret2); (exact ⟨rfl, eI HB⟩)
/-! ### laws_eqStringS: function 87 -/
def laws_eqStringS.l0 : Nat → List ByteArray → List ByteArray → Int → Option (Bool)
 | 0, _, _, _ => none
 | k + 1, x0, x1, x5 => if x5 < (x0.length : Int) then (if 0 ≤ x5 then (if x5 < (x1.length : Int) then (if (rdOf ByteArray.empty x0 x5).toList = (rdOf ByteArray.empty x1 x5).toList then (laws_eqStringS.l0 k x0 x1 (wrap64 (x5 + 1))) else (some false)) else (none)) else (none)) else (some true)
def laws_eqStringS.f (k : Nat) (l0 : List ByteArray) (l1 : List ByteArray) : Option (Bool) := if (l0.length : Int) = (l1.length : Int) then (laws_eqStringS.l0 k l0 l1 0) else (some false)
set_option maxHeartbeats 8000000 in
set_option maxRecDepth 100000 in
theorem laws_eqStringS.calls (k : Nat) (A0 : Option Addr) (c0 : Nat) (l0 : List ByteArray) (A1 : Option Addr) (c1 : Nat) (l1 : List ByteArray) (r : Bool) (w : World) (hr0 : Kd.C Kd.string w A0 l0.length l0) (hc0 : l0.length ≤ c0) (hr1 : Kd.C Kd.string w A1 l1.length l1) (hc1 : l1.length ≤ c1) (h : laws_eqStringS.f k l0 l1 = some r) (ht_ : Aside0 (r = true)) :
  Calls Tryd.prog 87 #[.slice A0 l0.length c0, .slice A1 l1.length c1] w fun e w' => e = .returned (.bool r) ∧ Drawn0 w w' := by
 (have HR0 := Aside0.mk hr0); (have HC0 := Aside0.mk hc0); clear hr0 hc0; (have HR1 := Aside0.mk hr1); (have HC1 := Aside0.mk hc1); clear hr1 hc1; (unfold laws_eqStringS.f at h); (have H := h); clear h; (by_cases c3 : (l0.length : Int) = (l1.length : Int))
 ·rw [if_pos c3] at H
  (have c3b0 : ((l0.length : Int) == (l1.length : Int)) = true := beq_iff_eq.mpr c3); (have c3b1 : ((l0.length : Int) != (l1.length : Int)) = false := bne_eq_false_iff_eq.mpr c3); (have c3b2 : (l0.length == l1.length) = true := by first | simpa using c3 | (simp at c3 ⊢; omega)); clear c3; (have H' := Aside0.mk H); clear H; (go_enter Tryd.func87, Tryd.ntmps87); (go_wp2); (repeat (go_quiet (fail); try go_wp2)); (go_loopg [5] k (fun kq v5 w' => ∃ (x5_1 : Int), v5 = .int .i64 x5_1 ∧ Aside0 (laws_eqStringS.l0 kq l0 l1 x5_1 = some r) ∧ Aside0 (kq ≤ k) ∧ Drawn0 w w'))
  case atStart => exact ⟨(0), (by first | rfl | (simp; done) | (simp [*]; done)), H', ⟨Nat.le_refl _⟩, by repeat (first | exact Drawn0.refl _ | apply Drawn0.step)⟩
  case round =>
   (clear H'); (try clear c1); (try clear p2); (try clear c3); (try clear c3b0); (try clear c3b1); (try clear c3b2); (obtain ⟨x5_1, rfl, HA, HK1, ⟨m1, rfl⟩⟩ := hrel)
   cases gk with
   | zero => exact absurd HA.out (by simp [laws_eqStringS.l0])
   | succ k1 =>
    (have H := HA.out); clear HA; (simp only [laws_eqStringS.l0] at H); (by_cases c4 : x5_1 < (l0.length : Int))
    ·rw [if_pos c4] at H
     (have c4b0 := decide_eq_true c4); clear c4; (by_cases c5 : 0 ≤ x5_1)
     ·rw [if_pos c5] at H
      (have c5b0 := decide_eq_true c5); clear c5; (by_cases c6 : x5_1 < (l1.length : Int))
      ·rw [if_pos c6] at H
       (have c6b0 := decide_eq_true c6); clear c6; (by_cases c7 : (rdOf ByteArray.empty l0 x5_1).toList = (rdOf ByteArray.empty l1 x5_1).toList)
       ·rw [if_pos c7] at H
        (have c7b0 : ((rdOf ByteArray.empty l0 x5_1).toList == (rdOf ByteArray.empty l1 x5_1).toList) = true := beq_iff_eq.mpr c7); (have c7b1 : ((rdOf ByteArray.empty l0 x5_1).toList != (rdOf ByteArray.empty l1 x5_1).toList) = false := bne_eq_false_iff_eq.mpr c7); clear c7; (have H' := Aside0.mk H); clear H; (have p101 : 0 ≤ (x5_1 : Int) := odt); (have q101 : x5_1 < (l0.length : Int) := odt); (obtain ⟨ad101, e101, hx101_0⟩ := Kd.at_string HR0.out x5_1 p101 q101); (cases e101); (replace p101 := eq_true p101); (replace q101 := eq_true q101); (have p102 : 0 ≤ (x5_1 : Int) := odt); (have q102 : x5_1 < (l1.length : Int) := odt); (obtain ⟨ad102, e102, hx102_0⟩ := Kd.at_string HR1.out x5_1 p102 q102); (cases e102); (replace p102 := eq_true p102); (replace q102 := eq_true q102); (go_wp2); (repeat (go_quiet (fail); try go_wp2)); go_roundg k1
        case measure => have := HK1.out; omega
        case rel => exact ⟨(wrap64 (x5_1 + 1)), (by first | rfl | (simp; done) | (simp [*]; done)), H', ⟨by have := HK1.out; omega⟩, by repeat (first | exact Drawn0.refl _ | apply Drawn0.step)⟩
       ·rw [if_neg c7] at H
        (have c7b0 : ((rdOf ByteArray.empty l0 x5_1).toList == (rdOf ByteArray.empty l1 x5_1).toList) = false := beq_eq_false_iff_ne.mpr c7); (have c7b1 : ((rdOf ByteArray.empty l0 x5_1).toList != (rdOf ByteArray.empty l1 x5_1).toList) = true := bne_iff_ne.mpr c7); (obtain rfl := Option.some.inj H); (have p101 : 0 ≤ (x5_1 : Int) := odt); (have q101 : x5_1 < (l0.length : Int) := odt); (obtain ⟨ad101, e101, hx101_0⟩ := Kd.at_string HR0.out x5_1 p101 q101); (cases e101); (replace p101 := eq_true p101); (replace q101 := eq_true q101); (have p102 : 0 ≤ (x5_1 : Int) := odt); (have q102 : x5_1 < (l1.length : Int) := odt); (obtain ⟨ad102, e102, hx102_0⟩ := Kd.at_string HR1.out x5_1 p102 q102); (cases e102); (replace p102 := eq_true p102); (replace q102 := eq_true q102); (go_wp2); (repeat (go_quiet (fail); try go_wp2)); go_ret; (exact ⟨by first | rfl | (simp; done) | (simp [*]; done), by repeat (first | exact Drawn0.refl _ | apply Drawn0.step)⟩)
      ·rw [if_neg c6] at H
       exact absurd H (by simp)
     ·rw [if_neg c5] at H
      exact absurd H (by simp)
    ·rw [if_neg c4] at H
     (have c4b0 := decide_eq_false c4); clear c4; (obtain rfl := Option.some.inj H); (go_wp2); (repeat (go_quiet (fail); try go_wp2)); go_ret; (exact ⟨by first | rfl | (simp; done) | (simp [*]; done), by repeat (first | exact Drawn0.refl _ | apply Drawn0.step)⟩)
 ·rw [if_neg c3] at H
  (have c3b0 : ((l0.length : Int) == (l1.length : Int)) = false := beq_eq_false_iff_ne.mpr c3); (have c3b1 : ((l0.length : Int) != (l1.length : Int)) = true := bne_iff_ne.mpr c3); (have c3b2 : (l0.length == l1.length) = false := by first | simpa using c3 | (simp at c3 ⊢; omega)); (obtain rfl := Option.some.inj H); (exact absurd ht_.out (by decide))
/-! ### laws_eqField: function 50 -/
def laws_eqField.f (k : Nat) (a0_0 : ByteArray) (a0_1 : Int) (a0_2 : Int) (a0_3 : Int) (l0_4 : List ByteArray) (a0_5 : Bool) (a0_6 : ByteArray) (a1_0 : ByteArray) (a1_1 : Int) (a1_2 : Int) (a1_3 : Int) (l1_4 : List ByteArray) (a1_5 : Bool) (a1_6 : ByteArray) : Option (Bool) := if a0_0.toList = a1_0.toList then (if a0_1 = a1_1 then (if a0_2 = a1_2 then (if a0_3 = a1_3 then ((laws_eqStringS.f k l0_4 l1_4).bind fun t103 => (if t103 = true then (if (a0_5 != a1_5) = true then (some false) else (if a0_6.toList = a1_6.toList then (some true) else (some false))) else (some false))) else (some false)) else (some false)) else (some false)) else (some false)
set_option maxHeartbeats 8000000 in
set_option maxRecDepth 100000 in
theorem laws_eqField.calls (k : Nat) (a0_0 : ByteArray) (a0_1 : Int) (a0_2 : Int) (a0_3 : Int) (A0_4 : Option Addr) (c0_4 : Nat) (l0_4 : List ByteArray) (a0_5 : Bool) (a0_6 : ByteArray) (a1_0 : ByteArray) (a1_1 : Int) (a1_2 : Int) (a1_3 : Int) (A1_4 : Option Addr) (c1_4 : Nat) (l1_4 : List ByteArray) (a1_5 : Bool) (a1_6 : ByteArray) (r : Bool) (w : World) (hr0_4 : Kd.C Kd.string w A0_4 l0_4.length l0_4) (hc0_4 : l0_4.length ≤ c0_4) (hr1_4 : Kd.C Kd.string w A1_4 l1_4.length l1_4) (hc1_4 : l1_4.length ≤ c1_4) (h : laws_eqField.f k a0_0 a0_1 a0_2 a0_3 l0_4 a0_5 a0_6 a1_0 a1_1 a1_2 a1_3 l1_4 a1_5 a1_6 = some r) (ht_ : Aside0 (r = true)) :
  Calls Tryd.prog 50 #[.agg #[.string a0_0, .int .i64 a0_1, .int .i64 a0_2, .int .i64 a0_3, .slice A0_4 l0_4.length c0_4, .bool a0_5, .string a0_6], .agg #[.string a1_0, .int .i64 a1_1, .int .i64 a1_2, .int .i64 a1_3, .slice A1_4 l1_4.length c1_4, .bool a1_5, .string a1_6]] w fun e w' => e = .returned (.bool r) ∧ Below w.heap.size w w' := by
 (have hu69 := Tryd.underlying69); (have HR0_4 := Aside0.mk hr0_4); (have HC0_4 := Aside0.mk hc0_4); clear hr0_4 hc0_4; (have HR1_4 := Aside0.mk hr1_4); (have HC1_4 := Aside0.mk hc1_4); clear hr1_4 hc1_4; (have HB := Aside0.mk (Below.refl w.heap.size w)); (unfold laws_eqField.f at h); (have H := h); clear h; (by_cases c3 : a0_0.toList = a1_0.toList)
 ·rw [if_pos c3] at H
  (have c3b0 : (a0_0.toList == a1_0.toList) = true := beq_iff_eq.mpr c3); (have c3b1 : (a0_0.toList != a1_0.toList) = false := bne_eq_false_iff_eq.mpr c3); clear c3; (by_cases c4 : a0_1 = a1_1)
  ·rw [if_pos c4] at H
   (have c4b0 : (a0_1 == a1_1) = true := beq_iff_eq.mpr c4); (have c4b1 : (a0_1 != a1_1) = false := bne_eq_false_iff_eq.mpr c4); clear c4; (by_cases c5 : a0_2 = a1_2)
   ·rw [if_pos c5] at H
    (have c5b0 : (a0_2 == a1_2) = true := beq_iff_eq.mpr c5); (have c5b1 : (a0_2 != a1_2) = false := bne_eq_false_iff_eq.mpr c5); clear c5; (by_cases c6 : a0_3 = a1_3)
    ·rw [if_pos c6] at H
     (have c6b0 : (a0_3 == a1_3) = true := beq_iff_eq.mpr c6); (have c6b1 : (a0_3 != a1_3) = false := bne_eq_false_iff_eq.mpr c6); clear c6; (replace H := obS H); (obtain ⟨t103, A7, H⟩ := H); (by_cases c8 : t103 = true)
     ·subst c8
      (rw [if_pos rfl] at H); (by_cases c9 : (a0_5 != a1_5) = true); (· (rw [if_pos c9] at H); (have c9b0 : (a0_5 != a1_5) = true := c9); ((try (have c9b1 : decide (a0_5 = a1_5) = false := by simpa using c9))); ((try (have c9b2 : (a0_5 == a1_5) = false := by simpa using c9))); ((try (have c9b3 : ¬ (a0_5 = a1_5) := by simpa using c9))); clear c9; (obtain rfl := Option.some.inj H); (exact absurd ht_.out (by decide)))
      ·rw [if_neg c9] at H
       (have c9b0 : (a0_5 != a1_5) = false := by simpa using c9); ((try (have c9b1 : decide (a0_5 = a1_5) = true := by simpa using c9))); ((try (have c9b2 : (a0_5 == a1_5) = true := by simpa using c9))); clear c9; (by_cases c15 : a0_6.toList = a1_6.toList); (· (rw [if_pos c15] at H); (have c15b0 : (a0_6.toList == a1_6.toList) = true := beq_iff_eq.mpr c15); (have c15b1 : (a0_6.toList != a1_6.toList) = false := bne_eq_false_iff_eq.mpr c15); clear c15; (obtain rfl := Option.some.inj H); (go_enter Tryd.func50, Tryd.ntmps50); (go_wp2_with (first | ((with_reducible refine gate_dst (N := 2) rfl ?_); refine box_event ?hg (N := 2) ?hd (cs := #[.string a0_0, .int .i64 a0_1, .int .i64 a0_2, .int .i64 a0_3, .slice A0_4 l0_4.length c0_4, .bool a0_5, .string a0_6]) (t := 69) ?hr ?_; (case hd => rfl); (case hg => rfl); (case hr => first | (go_simp; done) | (go_simp; rfl)); intro gb101 hg w16 hbox hb; have hB_ := zI hb HB; have n0_ := Aside0.mk (below_step hB_ hb); have n1_ := Aside0.mk (hbox); have n2_ := Aside0.mk (bx0 hg hB_); have n3_ := n2_; clear HB; have HB := n0_; have BK101 := n1_; have GW101 := n2_; have GE101 := n3_; clear n0_ n1_ n2_ n3_ hB_ hb hbox hg) | ((with_reducible refine gate_dst (N := 3) rfl ?_); refine box_event ?hg (N := 3) ?hd (cs := #[.string a1_0, .int .i64 a1_1, .int .i64 a1_2, .int .i64 a1_3, .slice A1_4 l1_4.length c1_4, .bool a1_5, .string a1_6]) (t := 69) ?hr ?_; (case hd => rfl); (case hg => rfl); (case hr => first | (go_simp; done) | (go_simp; rfl)); intro gb102 hg w17 hbox hb; have n0_ := Aside0.mk (kbI hb BK101); have hB_ := zI hb HB; have n1_ := Aside0.mk (below_step hB_ hb); have n2_ := Aside0.mk (hbox); have n3_ := Aside0.mk (bx0 hg hB_); have n4_ := n3_; have n5_ := Aside0.mk ((by rw [hg]; exact Nat.ne_of_lt (blk_lt (kI BK101)) : gb101 ≠ gb102)); have n6_ := Aside0.mk (Ne.symm n5_.out); clear BK101 HB; have BK101 := n0_; have HB := n1_; have BK102 := n2_; have GW102 := n3_; have GE102 := n4_; have NB101_102 := n5_; have NB102_101 := n6_; clear n0_ n1_ n2_ n3_ n4_ n5_ n6_ hB_ hb hbox hg; have hnb18 := NB101_102.out; have hnc18 := NB102_101.out; have hcz19_0 := cz BK101.out 0; have hcz19_1 := cz BK101.out 1; have hcz19_2 := cz BK101.out 2; have hcz19_3 := cz BK101.out 3; have hcz19_4 := cz BK101.out 4; have hcz19_5 := cz BK101.out 5; have hcz19_6 := cz BK101.out 6; have hfz19_0 := blk_frozen BK101.out 0; have hfz19_1 := blk_frozen BK101.out 1; have hfz19_2 := blk_frozen BK101.out 2; have hfz19_3 := blk_frozen BK101.out 3; have hfz19_4 := blk_frozen BK101.out 4; have hfz19_5 := blk_frozen BK101.out 5; have hfz19_6 := blk_frozen BK101.out 6; have hcz20_0 := cz BK102.out 0; have hcz20_1 := cz BK102.out 1; have hcz20_2 := cz BK102.out 2; have hcz20_3 := cz BK102.out 3; have hcz20_4 := cz BK102.out 4; have hcz20_5 := cz BK102.out 5; have hcz20_6 := cz BK102.out 6; have hfz20_0 := blk_frozen BK102.out 0; have hfz20_1 := blk_frozen BK102.out 1; have hfz20_2 := blk_frozen BK102.out 2; have hfz20_3 := blk_frozen BK102.out 3; have hfz20_4 := blk_frozen BK102.out 4; have hfz20_5 := blk_frozen BK102.out 5; have hfz20_6 := blk_frozen BK102.out 6) | ((with_reducible refine gate_callee (f := 87) rfl ?_); refine gL (some 29) Tryd.func87 #[.slice A0_4 l0_4.length c0_4, .slice A1_4 l1_4.length c1_4] ?_; (with_reducible refine (laws_eqStringS.calls k _ _ l0_4 _ _ l1_4 true _ ?side1 ?side2 ?side3 ?side4 A7.out ⟨rfl⟩).mono ?_); (case side1 => exact Kd.C_below HR0_4.out (eI HB)); (case side2 => exact HC0_4.out); (case side3 => exact Kd.C_below HR1_4.out (eI HB)); (case side4 => exact HC1_4.out); rintro e w' ⟨rfl, ⟨nd, rfl⟩⟩; refine ⟨_, rfl, ?_⟩))); go_ret; (exact ⟨rfl, eI HB⟩)); (· (rw [if_neg c15] at H); (have c15b0 : (a0_6.toList == a1_6.toList) = false := beq_eq_false_iff_ne.mpr c15); (have c15b1 : (a0_6.toList != a1_6.toList) = true := bne_iff_ne.mpr c15); (obtain rfl := Option.some.inj H); (exact absurd ht_.out (by decide)))
     ·replace c8 := Bool.eq_false_iff.mpr c8
      subst c8; (rw [if_neg (show ¬ (false = true) by decide)] at H); (obtain rfl := Option.some.inj H); (exact absurd ht_.out (by decide))
    ·rw [if_neg c6] at H
     (have c6b0 : (a0_3 == a1_3) = false := beq_eq_false_iff_ne.mpr c6); (have c6b1 : (a0_3 != a1_3) = true := bne_iff_ne.mpr c6); (obtain rfl := Option.some.inj H); (exact absurd ht_.out (by decide))
   ·rw [if_neg c5] at H
    (have c5b0 : (a0_2 == a1_2) = false := beq_eq_false_iff_ne.mpr c5); (have c5b1 : (a0_2 != a1_2) = true := bne_iff_ne.mpr c5); (obtain rfl := Option.some.inj H); (exact absurd ht_.out (by decide))
  ·rw [if_neg c4] at H
   (have c4b0 : (a0_1 == a1_1) = false := beq_eq_false_iff_ne.mpr c4); (have c4b1 : (a0_1 != a1_1) = true := bne_iff_ne.mpr c4); (obtain rfl := Option.some.inj H); (exact absurd ht_.out (by decide))
 ·rw [if_neg c3] at H
  (have c3b0 : (a0_0.toList == a1_0.toList) = false := beq_eq_false_iff_ne.mpr c3); (have c3b1 : (a0_0.toList != a1_0.toList) = true := bne_iff_ne.mpr c3); (obtain rfl := Option.some.inj H); (exact absurd ht_.out (by decide))
/-! ### laws_eqFieldS: function 13 -/
def laws_eqFieldS.l0 : Nat → List (S69) → List (S69) → Int → Option (Bool)
 | 0, _, _, _ => none
 | k + 1, x0, x1, x5 => if x5 < (x0.length : Int) then (if 0 ≤ x5 then (if x5 < (x1.length : Int) then ((laws_eqField.f k ((rd_T69 x0 x5).f0) ((rd_T69 x0 x5).f1) ((rd_T69 x0 x5).f2) ((rd_T69 x0 x5).f3) ((rd_T69 x0 x5).f4) ((rd_T69 x0 x5).f5) ((rd_T69 x0 x5).f6) ((rd_T69 x1 x5).f0) ((rd_T69 x1 x5).f1) ((rd_T69 x1 x5).f2) ((rd_T69 x1 x5).f3) ((rd_T69 x1 x5).f4) ((rd_T69 x1 x5).f5) ((rd_T69 x1 x5).f6)).bind fun t103 => (if t103 = true then (laws_eqFieldS.l0 k x0 x1 (wrap64 (x5 + 1))) else (some false))) else (none)) else (none)) else (some true)
def laws_eqFieldS.f (k : Nat) (l0 : List (S69)) (l1 : List (S69)) : Option (Bool) := if (l0.length : Int) = (l1.length : Int) then (laws_eqFieldS.l0 k l0 l1 0) else (some false)
def laws_eqFieldS.T6 : Bool × List (List Nat × List Nat) := (true, [([], []), ([], []), ([0, 1], [0, 1]), ([2], [2]), ([], []), ([], []), ([4, 5], [4, 5]), ([6], [6]), ([3, 7], [3, 7]), ([8], [8])])
def laws_eqFieldS.B6 : List Nat := [0, 0, 3, 7, 0, 0, 48, 112, 255, 511]
theorem laws_eqFieldS.tab6 : rtab .any (opsOf Tryd.f13 6) = laws_eqFieldS.T6 := by kernel_rfl
theorem laws_eqFieldS.bits6 : waitsOk laws_eqFieldS.T6.2 laws_eqFieldS.B6 = true := by kernel_rfl
set_option maxHeartbeats 8000000 in
set_option maxRecDepth 100000 in
theorem laws_eqFieldS.calls (k : Nat) (A0 : Option Addr) (c0 : Nat) (l0 : List (S69)) (A1 : Option Addr) (c1 : Nat) (l1 : List (S69)) (r : Bool) (w : World) (hr0 : Kd.C k69 w A0 l0.length l0) (hc0 : l0.length ≤ c0) (hr1 : Kd.C k69 w A1 l1.length l1) (hc1 : l1.length ≤ c1) (h : laws_eqFieldS.f k l0 l1 = some r) (ht_ : Aside0 (r = true)) :
  Calls Tryd.prog 13 #[.slice A0 l0.length c0, .slice A1 l1.length c1] w fun e w' => e = .returned (.bool r) ∧ Below w.heap.size w w' := by
 (have hu69 := Tryd.underlying69); (have HR0 := Aside0.mk hr0); (have HC0 := Aside0.mk hc0); clear hr0 hc0; (have HR1 := Aside0.mk hr1); (have HC1 := Aside0.mk hc1); clear hr1 hc1; (have HB := Aside0.mk (Below.refl w.heap.size w)); (unfold laws_eqFieldS.f at h); (have H := h); clear h; (by_cases c3 : (l0.length : Int) = (l1.length : Int))
 ·rw [if_pos c3] at H
  (have c3b0 : ((l0.length : Int) == (l1.length : Int)) = true := beq_iff_eq.mpr c3); (have c3b1 : ((l0.length : Int) != (l1.length : Int)) = false := bne_eq_false_iff_eq.mpr c3); (have c3b2 : (l0.length == l1.length) = true := by first | simpa using c3 | (simp at c3 ⊢; omega)); clear c3; (have H' := Aside0.mk H); clear H; (go_enter Tryd.func13, Tryd.ntmps13); (go_wp2); (go_loopg [5] k (fun kq v5 w' => ∃ (x5_1 : Int), v5 = .int .i64 x5_1 ∧ Aside0 (laws_eqFieldS.l0 kq l0 l1 x5_1 = some r) ∧ Aside0 (kq ≤ k) ∧ Aside0 (Below w.heap.size w w')))
  case atStart => exact ⟨(0), (by first | rfl | (simp; done) | (simp [*]; done)), H', ⟨Nat.le_refl _⟩, ⟨eI HB⟩⟩
  case round =>
   (clear H'); (try clear c1); (try clear p2); (try clear c3); (try clear c3b0); (try clear c3b1); (try clear c3b2); (obtain ⟨x5_1, rfl, HA, HK1, HB⟩ := hrel)
   cases gk with
   | zero => exact absurd HA.out (by simp [laws_eqFieldS.l0])
   | succ k1 =>
    (have H := HA.out); clear HA; (simp only [laws_eqFieldS.l0] at H); (by_cases c4 : x5_1 < (l0.length : Int))
    ·rw [if_pos c4] at H
     (have c4b0 := decide_eq_true c4); clear c4; (by_cases c5 : 0 ≤ x5_1)
     ·rw [if_pos c5] at H
      (have c5b0 := decide_eq_true c5); clear c5; (by_cases c6 : x5_1 < (l1.length : Int))
      ·rw [if_pos c6] at H
       (have c6b0 := decide_eq_true c6); clear c6; (replace H := obS H); (obtain ⟨t103, A7, H⟩ := H); (by_cases c8 : t103 = true)
       ·subst c8
        (rw [if_pos rfl] at H); (have H' := Aside0.mk H); clear H; (try go_wp2); (have n0_ := Aside0.mk (below_drew1 HB.out)); clear HB; (have HB := n0_); clear n0_; (have p101 : 0 ≤ (x5_1 : Int) := odt); (have q101 : x5_1 < (l0.length : Int) := odt); (obtain ⟨ad101, A101_4, c101_4, e101, hx101_0, hx101_1, hx101_2, hx101_3, hx101_4, hx101_5, hx101_6, hl101_4, hi101_4⟩ := at_T69 HR0.out x5_1 p101 q101); (have hw101_6 := hx101_6); (have hw101_5 := hx101_5); (have hw101_4 := hx101_4); (have hw101_3 := hx101_3); (have hw101_2 := hx101_2); (have hw101_1 := hx101_1); (have hw101_0 := hx101_0); (cases e101); (replace hx101_0 := hcI HB hx101_0); (replace hx101_1 := hcI HB hx101_1); (replace hx101_2 := hcI HB hx101_2); (replace hx101_3 := hcI HB hx101_3); (replace hx101_4 := hcI HB hx101_4); (replace hx101_5 := hcI HB hx101_5); (replace hx101_6 := hcI HB hx101_6); (have HR101_4 := Aside0.mk hi101_4); (have HC101_4 := Aside0.mk hl101_4); clear hi101_4 hl101_4; (replace p101 := eq_true p101); (replace q101 := eq_true q101); (have p102 : 0 ≤ (x5_1 : Int) := odt); (have q102 : x5_1 < (l1.length : Int) := odt); (obtain ⟨ad102, A102_4, c102_4, e102, hx102_0, hx102_1, hx102_2, hx102_3, hx102_4, hx102_5, hx102_6, hl102_4, hi102_4⟩ := at_T69 HR1.out x5_1 p102 q102); (have hw102_6 := hx102_6); (have hw102_5 := hx102_5); (have hw102_4 := hx102_4); (have hw102_3 := hx102_3); (have hw102_2 := hx102_2); (have hw102_1 := hx102_1); (have hw102_0 := hx102_0); (cases e102); (replace hx102_0 := hcI HB hx102_0); (replace hx102_1 := hcI HB hx102_1); (replace hx102_2 := hcI HB hx102_2); (replace hx102_3 := hcI HB hx102_3); (replace hx102_4 := hcI HB hx102_4); (replace hx102_5 := hcI HB hx102_5); (replace hx102_6 := hcI HB hx102_6); (have HR102_4 := Aside0.mk hi102_4); (have HC102_4 := Aside0.mk hl102_4); clear hi102_4 hl102_4; (replace p102 := eq_true p102); (replace q102 := eq_true q102); (refine start_ (n := 10) (S := fun w' => w'.cell? (ad101.add ((x5_1).toNat * 7)) = some (.string ((rd_T69 l0 x5_1).f0)) ∧ w'.cell? ⟨(ad101.add ((x5_1).toNat * 7)).block, (ad101.add ((x5_1).toNat * 7)).off + 1, none⟩ = some (.int .i64 ((rd_T69 l0 x5_1).f1)) ∧ w'.cell? ⟨(ad101.add ((x5_1).toNat * 7)).block, (ad101.add ((x5_1).toNat * 7)).off + 2, none⟩ = some (.int .i64 ((rd_T69 l0 x5_1).f2)) ∧ w'.cell? ⟨(ad101.add ((x5_1).toNat * 7)).block, (ad101.add ((x5_1).toNat * 7)).off + 3, none⟩ = some (.int .i64 ((rd_T69 l0 x5_1).f3)) ∧ w'.cell? ⟨(ad101.add ((x5_1).toNat * 7)).block, (ad101.add ((x5_1).toNat * 7)).off + 4, none⟩ = some (.slice A101_4 ((rd_T69 l0 x5_1).f4).length c101_4) ∧ w'.cell? ⟨(ad101.add ((x5_1).toNat * 7)).block, (ad101.add ((x5_1).toNat * 7)).off + 5, none⟩ = some (.bool ((rd_T69 l0 x5_1).f5)) ∧ w'.cell? ⟨(ad101.add ((x5_1).toNat * 7)).block, (ad101.add ((x5_1).toNat * 7)).off + 6, none⟩ = some (.string ((rd_T69 l0 x5_1).f6)) ∧ w'.cell? (ad102.add ((x5_1).toNat * 7)) = some (.string ((rd_T69 l1 x5_1).f0)) ∧ w'.cell? ⟨(ad102.add ((x5_1).toNat * 7)).block, (ad102.add ((x5_1).toNat * 7)).off + 1, none⟩ = some (.int .i64 ((rd_T69 l1 x5_1).f1)) ∧ w'.cell? ⟨(ad102.add ((x5_1).toNat * 7)).block, (ad102.add ((x5_1).toNat * 7)).off + 2, none⟩ = some (.int .i64 ((rd_T69 l1 x5_1).f2)) ∧ w'.cell? ⟨(ad102.add ((x5_1).toNat * 7)).block, (ad102.add ((x5_1).toNat * 7)).off + 3, none⟩ = some (.int .i64 ((rd_T69 l1 x5_1).f3)) ∧ w'.cell? ⟨(ad102.add ((x5_1).toNat * 7)).block, (ad102.add ((x5_1).toNat * 7)).off + 4, none⟩ = some (.slice A102_4 ((rd_T69 l1 x5_1).f4).length c102_4) ∧ w'.cell? ⟨(ad102.add ((x5_1).toNat * 7)).block, (ad102.add ((x5_1).toNat * 7)).off + 5, none⟩ = some (.bool ((rd_T69 l1 x5_1).f5)) ∧ w'.cell? ⟨(ad102.add ((x5_1).toNat * 7)).block, (ad102.add ((x5_1).toNat * 7)).off + 6, none⟩ = some (.string ((rd_T69 l1 x5_1).f6))) (ds := []) (cn 10 0) (by kernel_rfl) rfl (by kernel_rfl) ⟨(hcI HB hw101_0), (hcI HB hw101_1), (hcI HB hw101_2), (hcI HB hw101_3), (hcI HB hw101_4), (hcI HB hw101_5), (hcI HB hw101_6), (hcI HB hw102_0), (hcI HB hw102_1), (hcI HB hw102_2), (hcI HB hw102_3), (hcI HB hw102_4), (hcI HB hw102_5), (hcI HB hw102_6)⟩ (fun hHeld => ?_); refine with_tabW laws_eqFieldS.tab6 laws_eqFieldS.bits6 (fun HT_ HW_ => ?_))
        (generalize wr.drew = w9 at HB HR101_4 HR102_4 hx101_0 hx101_1 hx101_2 hx101_3 hx101_4 hx101_5 hx101_6 hx102_0 hx102_1 hx102_2 hx102_3 hx102_4 hx102_5 hx102_6 hHeld ⊢); (refine pB 0 (cn 10 1) (some 17) HT_ (h := ?_)); (refine pB 1 (cn 10 2) (some 18) HT_ (h := ?_)); (refine pB 2 (cn 10 3) (some 19) HT_ (h := ?_)); (refine pB 4 (cb 10 23) (some 21) HT_ (h := ?_)); (refine pB 5 (cb 10 55) (some 22) HT_ (h := ?_)); (refine pB 6 (cb 10 119) (some 23) HT_ (h := ?_)); (refine tB 3 (cn 10 7) (some 20) HT_ HW_ hHeld (h := ?_)); (refine tB 7 (cn 10 8) (some 24) HT_ HW_ hHeld (h := ?_)); (refine oN 8 (some 25) (cn 10 9) HT_ (fun K hK => ?_)); (refine gG Tryd.func50 #[.agg #[.string ((rd_T69 l0 x5_1).f0), .int .i64 ((rd_T69 l0 x5_1).f1), .int .i64 ((rd_T69 l0 x5_1).f2), .int .i64 ((rd_T69 l0 x5_1).f3), .slice A101_4 ((rd_T69 l0 x5_1).f4).length c101_4, .bool ((rd_T69 l0 x5_1).f5), .string ((rd_T69 l0 x5_1).f6)], .agg #[.string ((rd_T69 l1 x5_1).f0), .int .i64 ((rd_T69 l1 x5_1).f1), .int .i64 ((rd_T69 l1 x5_1).f2), .int .i64 ((rd_T69 l1 x5_1).f3), .slice A102_4 ((rd_T69 l1 x5_1).f4).length c102_4, .bool ((rd_T69 l1 x5_1).f5), .string ((rd_T69 l1 x5_1).f6)]] ?_); (with_reducible refine (laws_eqField.calls k1 ((rd_T69 l0 x5_1).f0) ((rd_T69 l0 x5_1).f1) ((rd_T69 l0 x5_1).f2) ((rd_T69 l0 x5_1).f3) _ _ ((rd_T69 l0 x5_1).f4) ((rd_T69 l0 x5_1).f5) ((rd_T69 l0 x5_1).f6) ((rd_T69 l1 x5_1).f0) ((rd_T69 l1 x5_1).f1) ((rd_T69 l1 x5_1).f2) ((rd_T69 l1 x5_1).f3) _ _ ((rd_T69 l1 x5_1).f4) ((rd_T69 l1 x5_1).f5) ((rd_T69 l1 x5_1).f6) true _ ?side1 ?side2 ?side3 ?side4 A7.out ⟨rfl⟩).mono ?_); ((case side1 => exact Kd.C_below HR101_4.out (eI HB))); ((case side2 => exact HC101_4.out)); ((case side3 => exact Kd.C_below HR102_4.out (eI HB))); ((case side4 => exact HC102_4.out)); (rintro e w10 ⟨rfl, hb⟩); (refine ⟨_, rfl, ?_⟩); (have n0_ := Aside0.mk (sI hb HB)); clear HB; (have HB := n0_); clear n0_; ((try clear hb)); ((try clear hb2)); ((try clear hk)); ((try clear hi)); (refine hK.out _ _ ⟨(hcI HB hw101_0), (hcI HB hw101_1), (hcI HB hw101_2), (hcI HB hw101_3), (hcI HB hw101_4), (hcI HB hw101_5), (hcI HB hw101_6), (hcI HB hw102_0), (hcI HB hw102_1), (hcI HB hw102_2), (hcI HB hw102_3), (hcI HB hw102_4), (hcI HB hw102_5), (hcI HB hw102_6)⟩ (fun hHeld => ?_)); clear hK K; (refine norm_ (a' := ?_) ?_ ?_); rotate_left
        (· (show Act.put _ (some 25) _ = _); (simp only [Act.put, aS1, aS2, aS3, i64_w, i32_w]); rfl); (refine pB 9 (cn 10 10) (some 26) HT_ (h := ?_)); (refine done_ (done_of HT_.out (by kernel_rfl)) ?_); (try go_wp2); go_roundg k1
        case measure => have := HK1.out; omega
        case rel => exact ⟨(wrap64 (x5_1 + 1)), (by first | rfl | (simp; done) | (simp [*]; done)), H', ⟨by have := HK1.out; omega⟩, ⟨eI HB⟩⟩
       ·replace c8 := Bool.eq_false_iff.mpr c8
        subst c8; (rw [if_neg (show ¬ (false = true) by decide)] at H); (obtain rfl := Option.some.inj H); (exact absurd ht_.out (by decide))
      ·rw [if_neg c6] at H
       exact absurd H (by simp)
     ·rw [if_neg c5] at H
      exact absurd H (by simp)
    ·rw [if_neg c4] at H
     (have c4b0 := decide_eq_false c4); clear c4; (obtain rfl := Option.some.inj H); (go_wp2); go_ret; (exact ⟨rfl, eI HB⟩)
 ·rw [if_neg c3] at H
  (have c3b0 : ((l0.length : Int) == (l1.length : Int)) = false := beq_eq_false_iff_ne.mpr c3); (have c3b1 : ((l0.length : Int) != (l1.length : Int)) = true := bne_iff_ne.mpr c3); (have c3b2 : (l0.length == l1.length) = false := by first | simpa using c3 | (simp at c3 ⊢; omega)); (obtain rfl := Option.some.inj H); (exact absurd ht_.out (by decide))
/-! ### laws_szStringS: function 80 -/
def laws_szStringS.l0 : Nat → List ByteArray → Int → Int → Option (Int)
 | 0, _, _, _ => none
 | k + 1, x0, x1, x5 => if x5 < (x0.length : Int) then (if 0 ≤ x5 then (if (wrap64 (x1 - ((rdOf ByteArray.empty x0 x5).size : Int))) < 0 then (some (-1)) else (laws_szStringS.l0 k x0 (wrap64 (x1 - ((rdOf ByteArray.empty x0 x5).size : Int))) (wrap64 (x5 + 1)))) else (none)) else (some x1)
def laws_szStringS.f (k : Nat) (l0 : List ByteArray) (a1 : Int) : Option (Int) := if (wrap64 (a1 - (l0.length : Int))) < 0 then (some (-1)) else (laws_szStringS.l0 k l0 (wrap64 (a1 - (l0.length : Int))) 0)
set_option maxHeartbeats 8000000 in
set_option maxRecDepth 100000 in
theorem laws_szStringS.calls (k : Nat) (A0 : Option Addr) (c0 : Nat) (l0 : List ByteArray) (a1 : Int) (r : Int) (w : World) (hr0 : Kd.C Kd.string w A0 l0.length l0) (hc0 : l0.length ≤ c0) (h : laws_szStringS.f k l0 a1 = some r) :
  Calls Tryd.prog 80 #[.slice A0 l0.length c0, .int .i64 a1] w fun e w' => e = .returned (.int .i64 r) ∧ Drawn0 w w' := by
 (have HR0 := Aside0.mk hr0); (have HC0 := Aside0.mk hc0); clear hr0 hc0; (unfold laws_szStringS.f at h); (have H := h); clear h; (by_cases c3 : (wrap64 (a1 - (l0.length : Int))) < 0); (· (rw [if_pos c3] at H); (have c3b0 := decide_eq_true c3); clear c3; (obtain rfl := Option.some.inj H); (go_enter Tryd.func80, Tryd.ntmps80); (go_wp2); go_ret; (exact ⟨by first | rfl | (simp; done) | (simp [*]; done), by repeat (first | exact Drawn0.refl _ | apply Drawn0.step)⟩))
 ·rw [if_neg c3] at H
  (have c3b0 := decide_eq_false c3); clear c3; (have H' := Aside0.mk H); clear H; (go_enter Tryd.func80, Tryd.ntmps80); (go_wp2); (go_loopg [1, 5] k (fun kq v1 v5 w' => ∃ (x1_1 : Int) (x5_1 : Int), v1 = .int .i64 x1_1 ∧ v5 = .int .i64 x5_1 ∧ Aside0 (laws_szStringS.l0 kq l0 x1_1 x5_1 = some r) ∧ Aside0 (kq ≤ k) ∧ Drawn0 w w'))
  case atStart => exact ⟨(wrap64 (a1 - (l0.length : Int))), (0), (by first | rfl | (simp; done) | (simp [*]; done)), (by first | rfl | (simp; done) | (simp [*]; done)), H', ⟨Nat.le_refl _⟩, by repeat (first | exact Drawn0.refl _ | apply Drawn0.step)⟩
  case round =>
   (clear H'); (try clear p2); (try clear c3); (try clear c3b0); (obtain ⟨x1_1, x5_1, rfl, rfl, HA, HK1, ⟨m1, rfl⟩⟩ := hrel)
   cases gk with
   | zero => exact absurd HA.out (by simp [laws_szStringS.l0])
   | succ k1 =>
    (have H := HA.out); clear HA; (simp only [laws_szStringS.l0] at H); (by_cases c4 : x5_1 < (l0.length : Int))
    ·rw [if_pos c4] at H
     (have c4b0 := decide_eq_true c4); clear c4; (by_cases c5 : 0 ≤ x5_1)
     ·rw [if_pos c5] at H
      (have c5b0 := decide_eq_true c5); clear c5; (by_cases c6 : (wrap64 (x1_1 - ((rdOf ByteArray.empty l0 x5_1).size : Int))) < 0)
      ·rw [if_pos c6] at H
       (have c6b0 := decide_eq_true c6); clear c6; (obtain rfl := Option.some.inj H); (have p101 : 0 ≤ (x5_1 : Int) := odt); (have q101 : x5_1 < (l0.length : Int) := odt); (obtain ⟨ad101, e101, hx101_0⟩ := Kd.at_string HR0.out x5_1 p101 q101); (cases e101); (replace p101 := eq_true p101); (replace q101 := eq_true q101); (go_wp2); go_ret; (exact ⟨by first | rfl | (simp; done) | (simp [*]; done), by repeat (first | exact Drawn0.refl _ | apply Drawn0.step)⟩)
      ·rw [if_neg c6] at H
       (have c6b0 := decide_eq_false c6); clear c6; (have H' := Aside0.mk H); clear H; (have p101 : 0 ≤ (x5_1 : Int) := odt); (have q101 : x5_1 < (l0.length : Int) := odt); (obtain ⟨ad101, e101, hx101_0⟩ := Kd.at_string HR0.out x5_1 p101 q101); (cases e101); (replace p101 := eq_true p101); (replace q101 := eq_true q101); (go_wp2); go_roundg k1
       case measure => have := HK1.out; omega
       case rel => exact ⟨(wrap64 (x1_1 - ((rdOf ByteArray.empty l0 x5_1).size : Int))), (wrap64 (x5_1 + 1)), (by first | rfl | (simp; done) | (simp [*]; done)), (by first | rfl | (simp; done) | (simp [*]; done)), H', ⟨by have := HK1.out; omega⟩, by repeat (first | exact Drawn0.refl _ | apply Drawn0.step)⟩
     ·rw [if_neg c5] at H
      exact absurd H (by simp)
    ·rw [if_neg c4] at H
     (have c4b0 := decide_eq_false c4); clear c4; (obtain rfl := Option.some.inj H); (go_wp2); go_ret; (exact ⟨by first | rfl | (simp; done) | (simp [*]; done), by repeat (first | exact Drawn0.refl _ | apply Drawn0.step)⟩)

end Go.Proofs.YtdogpphfofimeaaDoor.X
