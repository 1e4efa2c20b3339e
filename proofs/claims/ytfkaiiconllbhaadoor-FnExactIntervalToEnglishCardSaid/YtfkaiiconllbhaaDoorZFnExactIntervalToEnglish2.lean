/- For every interval the law FnExactIntervalToEnglish answers true, the tables lying as the program's own text lays them
This file (part 2 of 2) holds what the proof needs: plain functions with rounds and contracts written by programs of this work over the translation, and the lemmas. -/
import Derived.Test.YtfkaiiconllbhaaDoorZFnExactIntervalToEnglish1
import Derived.Lib.ItoaNum
import Derived.Lib.ItoaLen
import Derived.Test.YtfkaiiconllbhaaDoorTie
import Derived.Test.YtfkaiiconllbhaaDoorCards
import Derived.Test.YtfkaiiconllbhaaDoorRows
import Derived.WalkKit
import Derived.ProofKit
import Derived.OpenShut
import Derived.ShutString
import Derived.ChangeOld
import Derived.Below
import Derived.SizedLaws
import Derived.Lib.SmallJoins
import Derived.LaidMore
import Derived.Stop.Joined
import Derived.Lib.LaidTab
import Derived.LaidSub
import Derived.Handed
import Derived.SevenTiedAt
namespace Go.Proofs.YtfkaiiconllbhaaDoor.X
open Go.RowKit Go.Proofs.YtfkaiiconllbhaaDoorW.PrintWords Go.Proofs.YtfkaiiconllbhaaDoorW.PrintLast Go.Proofs.YtfkaiiconllbhaaDoorW.PrintMore
attribute [local go_sem] max2_int min2_int max_two min_two max_three min_three max_four min_four   -- for this text's walks alone
set_option linter.unusedVariables false
set_option linter.unusedSimpArgs false

/-! ### impl_YearToEnglish: function 10 -/
def impl_YearToEnglish.f (a0 : Int) : Option (ByteArray × Bool) := (impl_isYear.f a0).bind fun t101 => (if t101 = true then ((impl_yearText.f a0).bind fun t102 => (some (t102, true))) else (some ((⟨#[]⟩ : ByteArray), false)))
set_option maxHeartbeats 8000000 in
set_option maxRecDepth 100000 in
theorem impl_YearToEnglish.calls (a0 : Int) (r1 : ByteArray) (r2 : Bool) (w : World) (hG : GT w) (h : impl_YearToEnglish.f a0 = some (r1, r2)) :
  Calls Tryd.prog 10 #[.int .i64 a0] w fun e w' => e = .returned (.tuple #[.string r1, .bool r2]) ∧ Below w.heap.size w w' := by
 have HG := Aside0.mk hG
 clear hG
 have HB := Aside0.mk (Below.refl w.heap.size w)
 have H : ((impl_isYear.f a0).bind fun t101 => (if t101 = true then ((impl_yearText.f a0).bind fun t102 => (some (t102, true))) else (some ((⟨#[]⟩ : ByteArray), false)))) = some (r1, r2) := h
 clear h
 replace H := Option.bind_eq_some_iff.mp H
 obtain ⟨t101, A20, H⟩ := H
 replace H : (if t101 = true then ((impl_yearText.f a0).bind fun t102 => (some (t102, true))) else (some ((⟨#[]⟩ : ByteArray), false))) = some (r1, r2) := H
 have A2 := Aside0.mk A20
 clear A20
 by_cases c3 : t101 = true
 ·subst c3
  have H1 : ((impl_yearText.f a0).bind fun t102 => (some (t102, true))) = some (r1, r2) := by rw [if_pos rfl] at H; exact H
  clear H
  have H := H1
  clear H1
  replace H := Option.bind_eq_some_iff.mp H
  obtain ⟨t102, A40, H⟩ := H
  replace H : (some (t102, true)) = some (r1, r2) := H
  have A4 := Aside0.mk A40
  clear A40
  simp only [Option.some.injEq, Prod.mk.injEq] at H
  obtain ⟨rfl, rfl⟩ := H
  go_enter Tryd.func10, Tryd.ntmps10
  go_wp2_with (first | ((with_reducible refine gate_callee (f := 31) rfl ?_); refine goesL_ (some 5) rfl rfl Tryd.func31 (by kernel_rfl) rfl #[.int .i64 a0] rfl (by (try simp only [aM1, aM2, aM3]); first | done | rfl | (simp only [List.length_drop, List.length_take]; rfl)) ?_; (with_reducible refine (impl_isYear.calls a0 true _ A2.out).mono ?_); rintro e w' ⟨rfl, ⟨nd, rfl⟩⟩; refine ⟨_, rfl, ?_⟩) | ((with_reducible refine gate_callee (f := 32) rfl ?_); refine goesL_ (some 8) rfl rfl Tryd.func32 (by kernel_rfl) rfl #[.int .i64 a0] rfl (by (try simp only [aM1, aM2, aM3]); first | done | rfl | (simp only [List.length_drop, List.length_take]; rfl)) ?_; (with_reducible refine (impl_yearText.calls a0 t102 _ ?side1 A4.out).mono ?_); (case side1 => first | exact GT.below HG.out (by repeat (first | (with_reducible first | exact HB.out | apply below_alloc | apply pw_below_drewN | apply below_drew1) | exact HB.out)) | (repeat (first | exact HG.out | (with_reducible first | apply GT.drewN | apply GT.drew | apply GT.alloc)))); rintro e w5 ⟨rfl, hb⟩; refine ⟨_, rfl, ?_⟩; have n0_ := Aside0.mk (below_step (by repeat (first | (with_reducible first | exact HB.out | apply below_alloc | apply pw_below_drewN | apply below_drew1) | exact HB.out)) hb); clear HB; have HB := n0_; clear n0_; (try clear hb); (try clear hb2); (try clear hk); (try clear hi)))
  go_ret2
  exact ⟨by first | rfl | (simp [errW_none, errW_some] <;> rfl) | (simp [*, errW_none, errW_some] <;> rfl), by repeat (first | (with_reducible first | exact HB.out | apply below_alloc | apply pw_below_drewN | apply below_drew1) | exact HB.out)⟩
 ·replace c3 := Bool.eq_false_iff.mpr c3
  subst c3
  have H1 : (some ((⟨#[]⟩ : ByteArray), false)) = some (r1, r2) := by rw [if_neg (show ¬ (false = true) by decide)] at H; exact H
  clear H
  have H := H1
  clear H1
  simp only [Option.some.injEq, Prod.mk.injEq] at H
  obtain ⟨rfl, rfl⟩ := H
  go_enter Tryd.func10, Tryd.ntmps10
  go_wp2_with (first | ((with_reducible refine gate_callee (f := 31) rfl ?_); refine goesL_ (some 5) rfl rfl Tryd.func31 (by kernel_rfl) rfl #[.int .i64 a0] rfl (by (try simp only [aM1, aM2, aM3]); first | done | rfl | (simp only [List.length_drop, List.length_take]; rfl)) ?_; (with_reducible refine (impl_isYear.calls a0 false _ A2.out).mono ?_); rintro e w' ⟨rfl, ⟨nd, rfl⟩⟩; refine ⟨_, rfl, ?_⟩))
  go_ret2
  exact ⟨by first | rfl | (simp [errW_none, errW_some] <;> rfl) | (simp [*, errW_none, errW_some] <;> rfl), by repeat (first | (with_reducible first | exact HB.out | apply below_alloc | apply pw_below_drewN | apply below_drew1) | exact HB.out)⟩

end Go.Proofs.YtfkaiiconllbhaaDoor.X
namespace Go.Proofs.YtfkaiiconllbhaaDoor.X
open Go.RowKit Go.Proofs.YtfkaiiconllbhaaDoorW.PrintWords Go.Proofs.YtfkaiiconllbhaaDoorW.PrintLast Go.Proofs.YtfkaiiconllbhaaDoorW.PrintMore
attribute [local go_sem] max2_int min2_int max_two min_two max_three min_three max_four min_four   -- for this text's walks alone
set_option linter.unusedVariables false
set_option linter.unusedSimpArgs false

/-! ### spec_YearToEnglish: function 9 -/
def spec_YearToEnglish.f (k : Nat) (a0 : Int) : Option (ByteArray × Bool) := (spec_l9Year.f a0).bind fun t101 => (if t101 = true then ((spec_l25Year.f k a0).bind fun t102 => (some (t102, true))) else (some ((⟨#[]⟩ : ByteArray), false)))
theorem spec_YearToEnglish.mono : ∀ a0 k, LeO (spec_YearToEnglish.f k a0) (spec_YearToEnglish.f (k + 1) a0) := by
 intro a0 k
 unfold spec_YearToEnglish.f
 repeat' first
   | (with_reducible exact spec_l25Year.mono _ _)
   | (with_reducible exact LeO.refl _)
   | (with_reducible exact LeO.none _)
   | (with_reducible refine LeO.ite ?_ ?_)
   | (with_reducible refine LeO.bind ?_ (fun _ => ?_))
   | exact spec_l25Year.mono _ _
   | exact LeO.none _
   | refine LeO.ite ?_ ?_
   | refine LeO.bind ?_ (fun _ => ?_)
set_option maxHeartbeats 8000000 in
set_option maxRecDepth 100000 in
theorem spec_YearToEnglish.calls (k : Nat) (a0 : Int) (r1 : ByteArray) (r2 : Bool) (w : World) (h : spec_YearToEnglish.f k a0 = some (r1, r2)) :
  Calls Tryd.prog 9 #[.int .i64 a0] w fun e w' => e = .returned (.tuple #[.string r1, .bool r2]) ∧ Below w.heap.size w w' := by
 have HB := Aside0.mk (Below.refl w.heap.size w)
 have H : ((spec_l9Year.f a0).bind fun t101 => (if t101 = true then ((spec_l25Year.f k a0).bind fun t102 => (some (t102, true))) else (some ((⟨#[]⟩ : ByteArray), false)))) = some (r1, r2) := h
 clear h
 replace H := Option.bind_eq_some_iff.mp H
 obtain ⟨t101, A20, H⟩ := H
 replace H : (if t101 = true then ((spec_l25Year.f k a0).bind fun t102 => (some (t102, true))) else (some ((⟨#[]⟩ : ByteArray), false))) = some (r1, r2) := H
 have A2 := Aside0.mk A20
 clear A20
 by_cases c3 : t101 = true
 ·subst c3
  have H1 : ((spec_l25Year.f k a0).bind fun t102 => (some (t102, true))) = some (r1, r2) := by rw [if_pos rfl] at H; exact H
  clear H
  have H := H1
  clear H1
  replace H := Option.bind_eq_some_iff.mp H
  obtain ⟨t102, A40, H⟩ := H
  replace H : (some (t102, true)) = some (r1, r2) := H
  have A4 := Aside0.mk A40
  clear A40
  simp only [Option.some.injEq, Prod.mk.injEq] at H
  obtain ⟨rfl, rfl⟩ := H
  go_enter Tryd.func9, Tryd.ntmps9
  go_wp2_with (first | ((with_reducible refine gate_callee (f := 29) rfl ?_); refine goesL_ (some 5) rfl rfl Tryd.func29 (by kernel_rfl) rfl #[.int .i64 a0] rfl (by (try simp only [aM1, aM2, aM3]); first | done | rfl | (simp only [List.length_drop, List.length_take]; rfl)) ?_; (with_reducible refine (spec_l9Year.calls a0 true _ A2.out).mono ?_); rintro e w' ⟨rfl, ⟨nd, rfl⟩⟩; refine ⟨_, rfl, ?_⟩) | ((with_reducible refine gate_callee (f := 30) rfl ?_); refine goesL_ (some 8) rfl rfl Tryd.func30 (by kernel_rfl) rfl #[.int .i64 a0] rfl (by (try simp only [aM1, aM2, aM3]); first | done | rfl | (simp only [List.length_drop, List.length_take]; rfl)) ?_; (with_reducible refine (spec_l25Year.calls k a0 t102 _ A4.out).mono ?_); rintro e w5 ⟨rfl, hb⟩; refine ⟨_, rfl, ?_⟩; have n0_ := Aside0.mk (below_step (by repeat (first | (with_reducible first | exact HB.out | apply below_alloc | apply pw_below_drewN | apply below_drew1) | exact HB.out)) hb); clear HB; have HB := n0_; clear n0_; (try clear hb); (try clear hb2); (try clear hk); (try clear hi)))
  go_ret2
  exact ⟨by first | rfl | (simp [errW_none, errW_some] <;> rfl) | (simp [*, errW_none, errW_some] <;> rfl), by repeat (first | (with_reducible first | exact HB.out | apply below_alloc | apply pw_below_drewN | apply below_drew1) | exact HB.out)⟩
 ·replace c3 := Bool.eq_false_iff.mpr c3
  subst c3
  have H1 : (some ((⟨#[]⟩ : ByteArray), false)) = some (r1, r2) := by rw [if_neg (show ¬ (false = true) by decide)] at H; exact H
  clear H
  have H := H1
  clear H1
  simp only [Option.some.injEq, Prod.mk.injEq] at H
  obtain ⟨rfl, rfl⟩ := H
  go_enter Tryd.func9, Tryd.ntmps9
  go_wp2_with (first | ((with_reducible refine gate_callee (f := 29) rfl ?_); refine goesL_ (some 5) rfl rfl Tryd.func29 (by kernel_rfl) rfl #[.int .i64 a0] rfl (by (try simp only [aM1, aM2, aM3]); first | done | rfl | (simp only [List.length_drop, List.length_take]; rfl)) ?_; (with_reducible refine (spec_l9Year.calls a0 false _ A2.out).mono ?_); rintro e w' ⟨rfl, ⟨nd, rfl⟩⟩; refine ⟨_, rfl, ?_⟩))
  go_ret2
  exact ⟨by first | rfl | (simp [errW_none, errW_some] <;> rfl) | (simp [*, errW_none, errW_some] <;> rfl), by repeat (first | (with_reducible first | exact HB.out | apply below_alloc | apply pw_below_drewN | apply below_drew1) | exact HB.out)⟩

end Go.Proofs.YtfkaiiconllbhaaDoor.X
set_option linter.unusedVariables false
set_option linter.unusedSimpArgs false
namespace Go.Proofs.YtfkaiiconllbhaaDoor.X
open Go.RowKit Go.Proofs.YtfkaiiconllbhaaDoorW.PrintWords Go.Proofs.YtfkaiiconllbhaaDoor.E
def numB (n : Int) : ByteArray := ⟨(Lib.itoa n).toArray⟩
def decB (u : Nat) : ByteArray := ⟨(Lib.decDigits u).toArray⟩
theorem digit_fin : ∀ i : Fin 10, (⟨#[48, 49, 50, 51, 52, 53, 54, 55, 56, 57]⟩ : ByteArray).extract i.val (i.val + 1) = ⟨#[UInt8.ofNat (48 + i.val)]⟩ := by decide +kernel
theorem digit_at (i : Int) (j : Int) (h0 : 0 ≤ i) (h1 : i < 10) (hj : j = i + 1) : (⟨#[48, 49, 50, 51, 52, 53, 54, 55, 56, 57]⟩ : ByteArray).extract i.toNat j.toNat = ⟨#[UInt8.ofNat (48 + i.toNat)]⟩ := by
  rw [show j.toNat = i.toNat + 1 by omega]
  exact digit_fin ⟨i.toNat, by omega⟩
theorem ba_append (l m : List UInt8) : (⟨l.toArray⟩ : ByteArray) ++ (⟨m.toArray⟩ : ByteArray) = ⟨(l ++ m).toArray⟩ := by
  apply ByteArray.ext
  rw [ByteArray.data_append]
  simp
theorem ba_size (l : List UInt8) : (⟨l.toArray⟩ : ByteArray).size = l.length := rfl
theorem decB_size (u : Nat) (h : u < 18446744073709551616) : (decB u).size ≤ 20 := by
  unfold decB
  rw [ba_size, Lib.decDigits_length]
  exact Lib.nDigits_le20 u h
theorem numB_size (n : Int) (h0 : -9223372036854775808 ≤ n) (h1 : n ≤ 9223372036854775807) : (numB n).size ≤ 21 := by
  unfold numB
  rw [ba_size]
  exact Lib.itoa_length_le n h0 h1
theorem l1Num_nat : ∀ (u : Nat), u ≤ 9223372036854775807 → Ev (fun k => spec_l1Num.f k (u : Int)) (decB u) := by
  intro u
  induction u using Nat.strongRecOn with
  | _ u ih =>
    intro hu
    refine Ev.step (fun k => rfl) (ev_neg (by omega) ?_)
    by_cases h : u < 10
    · have hw : wrap64 ((u : Int) + 1) = (u : Int) + 1 := wrap_id (by omega) (by omega)
      rw [hw]
      refine ev_pos (by omega) (ev_pos (by omega) (ev_pos (by omega) (ev_pos (by omega) (ev_now ?_))))
      rw [digit_at (u : Int) _ (by omega) (by omega) rfl]
      unfold decB
      rw [Lib.decDigits, dif_pos h, Int.toNat_natCast]
    · refine ev_neg (by omega) ?_
      have hd : Int.tdiv (u : Int) 10 = ((u / 10 : Nat) : Int) := by rw [Int.tdiv_eq_ediv_of_nonneg (by omega)]; omega
      have hm : Int.tmod (u : Int) 10 = ((u % 10 : Nat) : Int) := by rw [Int.tmod_eq_emod_of_nonneg (by omega)]; omega
      have hw : wrap64 ((u / 10 : Nat) : Int) = ((u / 10 : Nat) : Int) := wrap_id (by omega) (by omega)
      have hw2 : wrap64 (((u % 10 : Nat) : Int) + 1) = ((u % 10 : Nat) : Int) + 1 := wrap_id (by omega) (by omega)
      rw [hd, hw, hm, hw2]
      refine Ev.bind (ih (u / 10) (by omega) (by omega)) ?_
      rw [digit_at ((u % 10 : Nat) : Int) _ (by omega) (by omega) rfl]
      have hs := decB_size (u / 10) (by omega)
      have h1 : (⟨#[UInt8.ofNat (48 + ((u % 10 : Nat) : Int).toNat)]⟩ : ByteArray).size = 1 := rfl
      refine ev_pos (by omega) (ev_pos (by omega) (ev_pos (by omega) (ev_pos (by omega) (ev_now ?_))))
      unfold decB
      rw [show (⟨#[UInt8.ofNat (48 + ((u % 10 : Nat) : Int).toNat)]⟩ : ByteArray) = ⟨[UInt8.ofNat (48 + u % 10)].toArray⟩ by rw [Int.toNat_natCast], ba_append]
      conv => rhs; rw [Lib.decDigits, dif_neg h]
theorem l1Num_ev (n : Int) (h0 : -9223372036854775807 ≤ n) (h1 : n ≤ 9223372036854775807) : Ev (fun k => spec_l1Num.f k n) (numB n) := by
  by_cases hn : n < 0
  · have hw : wrap64 (-n) = ((n.natAbs : Nat) : Int) := by rw [wrap_id (by omega) (by omega)]; omega
    refine Ev.step (fun k => rfl) (ev_pos hn ?_)
    rw [hw]
    have hs := decB_size n.natAbs (by omega)
    refine Ev.bind (l1Num_nat _ (by omega)) (ev_pos (by omega) (ev_now ?_))
    unfold numB decB
    rw [show (⟨#[45]⟩ : ByteArray) = ⟨[45].toArray⟩ from rfl, ba_append, Lib.itoa, if_pos hn]
    rfl
  · obtain ⟨u, rfl⟩ : ∃ u : Nat, n = u := ⟨n.toNat, by omega⟩
    refine ev_cast (l1Num_nat u (by omega)) ?_
    unfold numB decB
    rw [Lib.itoa, if_neg hn, Int.toNat_natCast]
end Go.Proofs.YtfkaiiconllbhaaDoor.X
set_option linter.unusedVariables false
set_option linter.unusedSimpArgs false
namespace Go.Proofs.YtfkaiiconllbhaaDoor.X
open Go.RowKit Go.Proofs.YtfkaiiconllbhaaDoorW.PrintWords Go.Proofs.YtfkaiiconllbhaaDoor.E
theorem l1In_eq (a l h : Int) : spec_l1In.f a l h = some (decide (l ≤ a ∧ a ≤ h)) := by
  unfold spec_l1In.f
  by_cases h1 : a ≥ l
  · rw [if_pos h1]; congr 1; simp [h1]
  · rw [if_neg h1]; congr 1; symm; simp; intro h2; omega
theorem within_eq (a l h : Int) : impl_within.f a l h = some (decide (l ≤ a ∧ a ≤ h)) := by
  unfold impl_within.f
  by_cases h1 : a ≥ l
  · rw [if_pos h1]; congr 1; simp [h1]
  · rw [if_neg h1]; congr 1; symm; simp; intro h2; omega
def yearOk (y : Int) : Bool := decide (-20000 ≤ y ∧ y ≤ 2100)
theorem l9Year_eq (y : Int) : spec_l9Year.f y = some (yearOk y) := by unfold spec_l9Year.f; rw [l1In_eq]; rfl
theorem isYear_eq (y : Int) : impl_isYear.f y = some (yearOk y) := by unfold impl_isYear.f; rw [within_eq]; rfl
theorem Itoa_eq (n : Int) (h0 : -9223372036854775808 ≤ n) (h1 : n ≤ 9223372036854775807) : strconv_Itoa.f n = some (numB n) := by unfold strconv_Itoa.f; rw [if_pos ⟨h0, h1⟩]; rfl
def yearB (y : Int) : ByteArray := if y > 0 then (⟨#[65, 68, 32]⟩ : ByteArray) ++ numB y else numB (1 - y) ++ (⟨#[32, 66, 67]⟩ : ByteArray)
theorem yearB_size (y : Int) (h0 : -20000 ≤ y) (h1 : y ≤ 2100) : (yearB y).size ≤ 24 := by
  unfold yearB
  split
  · rw [ByteArray.size_append]
    have := numB_size y (by omega) (by omega)
    have h3 : (⟨#[65, 68, 32]⟩ : ByteArray).size = 3 := rfl
    omega
  · rw [ByteArray.size_append]
    have := numB_size (1 - y) (by omega) (by omega)
    have h3 : (⟨#[32, 66, 67]⟩ : ByteArray).size = 3 := rfl
    omega
theorem yearText_eq (y : Int) (h0 : -20000 ≤ y) (h1 : y ≤ 2100) : impl_yearText.f y = some (yearB y) := by
  unfold impl_yearText.f yearB
  have e : wrap64 (1 - y) = 1 - y := wrap_id (by omega) (by omega)
  rw [e]
  by_cases c : y > 0
  · rw [if_pos c, if_pos c, Itoa_eq _ (by omega) (by omega)]
    have := numB_size y (by omega) (by omega)
    exact if_pos (by omega)
  · rw [if_neg c, if_neg c, Itoa_eq _ (by omega) (by omega)]
    have := numB_size (1 - y) (by omega) (by omega)
    exact if_pos (by omega)
theorem l25Year_ev (y : Int) (h0 : -20000 ≤ y) (h1 : y ≤ 2100) : Ev (fun k => spec_l25Year.f k y) (yearB y) := by
  unfold spec_l25Year.f yearB
  have e : wrap64 (1 - y) = 1 - y := wrap_id (by omega) (by omega)
  rw [e]
  by_cases c : y > 0
  · rw [if_pos c]
    have := numB_size y (by omega) (by omega)
    exact ev_pos c (Ev.bind (l1Num_ev _ (by omega) (by omega)) (ev_pos (by omega) (ev_now rfl)))
  · rw [if_neg c]
    have := numB_size (1 - y) (by omega) (by omega)
    exact ev_neg c (Ev.bind (l1Num_ev _ (by omega) (by omega)) (ev_pos (by omega) (ev_now rfl)))
def yearE (y : Int) : ByteArray × Bool := if yearOk y = true then (yearB y, true) else (⟨#[]⟩, false)
theorem specYear_ev (y : Int) : Ev (fun k => spec_YearToEnglish.f k y) (yearE y) := by
  unfold spec_YearToEnglish.f yearE
  refine ev_bind0 (l9Year_eq y) (ev_ite (fun c => ?_) (fun c => ev_now (if_neg c).symm))
  rw [if_pos c]
  have c' := of_decide_eq_true c
  exact Ev.bind (l25Year_ev y c'.1 c'.2) (ev_now rfl)
theorem implYear_eq (y : Int) : impl_YearToEnglish.f y = some (yearE y) := by
  unfold impl_YearToEnglish.f yearE
  rw [isYear_eq, Option.bind_some]
  by_cases c : yearOk y = true
  · have c' := of_decide_eq_true c
    rw [if_pos c, if_pos c, yearText_eq y c'.1 c'.2]; rfl
  · rw [if_neg c, if_neg c]
def ivOk (a b : Int) : Bool := yearOk a && yearOk b && decide (a ≤ b)
theorem l9Interval_eq (a b : Int) : spec_l9Interval.f a b = some (ivOk a b) := by
  unfold spec_l9Interval.f ivOk
  rw [l9Year_eq, l9Year_eq]
  cases yearOk a <;> cases yearOk b <;> rfl
theorem isInterval_eq (a b : Int) : impl_isInterval.f a b = some (ivOk a b) := by
  unfold impl_isInterval.f ivOk
  rw [isYear_eq, isYear_eq]
  cases yearOk a <;> cases yearOk b <;> rfl
theorem ivOk_iff {a b : Int} (h : ivOk a b = true) : (-20000 ≤ a ∧ a ≤ 2100) ∧ (-20000 ≤ b ∧ b ≤ 2100) ∧ a ≤ b := by
  unfold ivOk yearOk at h
  simpa [and_assoc] using h
def ivB (a b : Int) : ByteArray := if a = b then (⟨#[105, 110, 32]⟩ : ByteArray) ++ yearB a else (((⟨#[98, 101, 116, 119, 101, 101, 110, 32]⟩ : ByteArray) ++ yearB a) ++ (⟨#[32, 97, 110, 100, 32]⟩ : ByteArray)) ++ yearB b
theorem sz8 (x : ByteArray) : ((⟨#[98, 101, 116, 119, 101, 101, 110, 32]⟩ : ByteArray) ++ x).size = 8 + x.size := by rw [ByteArray.size_append]; rfl
theorem sz5 (x : ByteArray) : (x ++ (⟨#[32, 97, 110, 100, 32]⟩ : ByteArray)).size = x.size + 5 := by rw [ByteArray.size_append]; rfl
theorem intervalText_eq (a b : Int) (ha : -20000 ≤ a ∧ a ≤ 2100) (hb : -20000 ≤ b ∧ b ≤ 2100) : impl_intervalText.f a b = some (ivB a b) := by
  unfold impl_intervalText.f ivB
  have sa := yearB_size a ha.1 ha.2
  have sb := yearB_size b hb.1 hb.2
  rw [yearText_eq a ha.1 ha.2, yearText_eq b hb.1 hb.2]
  by_cases c : a = b
  · rw [if_pos c, if_pos c]
    exact if_pos (by omega)
  · rw [if_neg c, if_neg c]
    refine (if_pos (by omega)).trans ((if_pos (by rw [sz8]; omega)).trans (if_pos (by rw [sz5, sz8]; omega)))
theorem l25Interval_ev (a b : Int) (ha : -20000 ≤ a ∧ a ≤ 2100) (hb : -20000 ≤ b ∧ b ≤ 2100) : Ev (fun k => spec_l25Interval.f k a b) (ivB a b) := by
  unfold spec_l25Interval.f ivB
  have sa := yearB_size a ha.1 ha.2
  have sb := yearB_size b hb.1 hb.2
  by_cases c : a = b
  · rw [if_pos c]
    exact ev_pos c (Ev.bind (l25Year_ev a ha.1 ha.2) (ev_pos (by omega) (ev_now rfl)))
  · rw [if_neg c]
    exact ev_neg c (Ev.bind (l25Year_ev a ha.1 ha.2) (ev_pos (by omega) (ev_pos (by rw [sz8]; omega) (Ev.bind (l25Year_ev b hb.1 hb.2) (ev_pos (by rw [sz5, sz8]; omega) (ev_now rfl))))))
def ivE (a b : Int) : ByteArray × Bool := if ivOk a b = true then (ivB a b, true) else (⟨#[]⟩, false)
theorem specIv_ev (a b : Int) : Ev (fun k => spec_IntervalToEnglish.f k a b) (ivE a b) := by
  unfold spec_IntervalToEnglish.f ivE
  refine ev_bind0 (l9Interval_eq a b) (ev_ite (fun c => ?_) (fun c => ev_now (if_neg c).symm))
  rw [if_pos c]
  have c' := ivOk_iff c
  exact Ev.bind (l25Interval_ev a b c'.1 c'.2.1) (ev_now rfl)
theorem implIv_eq (a b : Int) : impl_IntervalToEnglish.f a b = some (ivE a b) := by
  unfold impl_IntervalToEnglish.f ivE
  rw [isInterval_eq, Option.bind_some]
  by_cases c : ivOk a b = true
  · have c' := ivOk_iff c
    rw [if_pos c, if_pos c, intervalText_eq a b c'.1 c'.2.1]; rfl
  · rw [if_neg c, if_neg c]
end Go.Proofs.YtfkaiiconllbhaaDoor.X
set_option linter.unusedVariables false
set_option linter.unusedSimpArgs false
namespace Go.Proofs.YtfkaiiconllbhaaDoor.Pure
open Go.RowKit Go.Proofs.YtfkaiiconllbhaaDoor.X Go.Proofs.YtfkaiiconllbhaaDoorW.PrintWords Go.Proofs.YtfkaiiconllbhaaDoor.E
theorem FnExactIntervalToEnglish : PureFnExactIntervalToEnglish := by
  intro x hx
  unfold laws_FnExactIntervalToEnglish.f
  have hto : laws_toInterval.f x.f0 x.f1 = some (x.f0, x.f1) := rfl
  exact ev_get (ev_bind0 hto (Ev.bind (specIv_ev x.f0 x.f1) (ev_bind0 hto (ev_bind0 (implIv_eq x.f0 x.f1) (ev_pos rfl (ev_neg (by simp) (ev_now rfl)))))))
end Go.Proofs.YtfkaiiconllbhaaDoor.Pure
namespace Go.Proofs.YtfkaiiconllbhaaDoor.fnExactIntervalToEnglish
open Go.ChangeShapes Go.WideShapes Go.ChangeAt Go.RowKit Go.Joins Go.Proofs.YtfkaiiconllbhaaDoorW.PrintWords Go.Proofs.YtfkaiiconllbhaaDoor.Open Go.Proofs.YtfkaiiconllbhaaDoor.X
open Go.ChangeMaps (open_string shut_string)
set_option linter.unusedVariables false
theorem own : ownKnob Tryd.prog.godebug = none := by kernel_rfl
def laid : List (String × DataW Unit) := [("math/bits.deBruijn32tab", Rows.laid_math_bits_deBruijn32tab), ("math/bits.deBruijn64tab", Rows.laid_math_bits_deBruijn64tab), ("internal/strconv.uint64pow10", Rows.laid_internal_strconv_uint64pow10)]
theorem door_met (os : Os) (args : Array Value) : laidMetH Tryd.prog laid ((World.doorLaid Tryd.prog 62 os).forCall (fun _ _ => 0) ⟨#[], args, []⟩).memory :=
  laidMetH_of_parts3 (fuel := 8) (laidMet_of_run' 8 (by kernel_rfl) (by kernel_rfl)) (by kernel_rfl) (by kernel_rfl)
theorem gTab : Tryd.prog.globalNamed "internal/strconv.uint64pow10" = some 1 := by kernel_rfl
theorem gTabType : (Tryd.prog.globals[1]?).map (·.type) = some 145 := by kernel_rfl
theorem cellsT : Tryd.prog.cellsOf 145 = 20 := by kernel_rfl
theorem cellsE : Tryd.prog.cellsOf 123 = 1 := by kernel_rfl
theorem only : laid.filter (fun x => x.1 == "internal/strconv.uint64pow10") = [("internal/strconv.uint64pow10", Lib.tabData .u64 Lib.pow10Tab)] := by kernel_rfl
theorem table {W : World} (h : laidMetH Tryd.prog laid W) : GT W := by
  have h2 := h.filter (fun x => x.1 == "internal/strconv.uint64pow10")
  rw [only] at h2
  rw [MakeChecks.laidMetH_plain _ _ _ (by kernel_rfl)] at h2
  exact Lib.tabIs_of_head (rest := []) gTab gTabType Tryd.underlying145 Tryd.underlying123 cellsE cellsT h2
theorem laidOut : laidOutB Tryd.prog = true := by kernel_rfl
set_option maxRecDepth 100000 in
theorem lifted (os : Os) (started : os.Started) (H : Type) (enc : TypeId × Value → H) :
    ReturnsInHanded {} Tryd.checked os 4 .any (fun w args => (Rows.fnExactIntervalToEnglishSpec.pre enc Tryd.prog Tryd.f4 [] false w args ∧ laidMetH Tryd.prog laid w) ∧ sizedMet enc Tryd.prog Tryd.f4 (OpenSpec.ofChange Rows.fnExactIntervalToEnglishSpec) false w args)
      (Rows.fnExactIntervalToEnglishSpec.post enc Tryd.prog Tryd.f4 false true false false) := by
  refine returnsInHanded_of_change_and (C := Tryd.checked) (X := fun w _ => laidMetH Tryd.prog laid w) (fun _ _ _ hh h => h.of_heap hh) own started (by kernel_rfl) Tryd.func4
    (ChangeSpec.witness_shaped (enc := enc) (C := Tryd.checked) (os := os) (X := fun w _ => laidMetH Tryd.prog laid w) false (World.doorLaid Tryd.prog 62 os) #[.agg #[.int .i64 0, .int .i64 0]] 8 rfl (World.shaped_of_RefB (by kernel_rfl) (by kernel_rfl)) (by kernel_rfl) (by kernel_rfl) (by kernel_rfl) (door_met os _)) ?_
  intro W base args ds gs before hval0 hW hcnd hsz0 hL _
  have hval : ∀ (j : Nat) t v, Tryd.f4.params[j]? = some t → args[j]? = some v → Value.okWide Tryd.prog W .any base t v := hval0
  have hW' := hW
  obtain ⟨p, q, hA0, hV, rfl, hfz, hnd⟩ := hW
  have hA : DataW.TrodAll enc Tryd.prog W 0 (fun _ => true) true Tryd.f4.params.toList args.toList ds p := hA0
  rw [Tryd.params4] at hA hval
  obtain ⟨v0, vs0, d0, ds0, p0, q0, hargs, rfl, rfl, h0, r0⟩ := trodAll_cons hA
  obtain ⟨rfl, rfl, rfl⟩ := trodAll_nil r0
  obtain rfl : args = #[v0] := by cases args; simp_all
  obtain ⟨rfl, rfl⟩ := trodVars_none hV
  have kk0 := h0
  have lt0 : ∀ x ∈ p0, x.block < W.heap.size := by obtain ⟨m, hm⟩ := kk0; exact DataW.trod_lt m _ _ _ hm
  obtain ⟨a0, cs0, rfl, hK0, g0⟩ := arg_agg op26 (by obtain ⟨cs, e, _⟩ := okWide_struct Tryd.underlying26 (hval 0 26 v0 rfl rfl); exact ⟨cs, e⟩) h0
  have he0 := k26_open hK0
  obtain rfl : cs0 = #[.int .i64 a0.f0, .int .i64 a0.f1] := by cases cs0; simp_all
  clear hA0 hval0 hsz0
  obtain ⟨k, hk⟩ := Pure.FnExactIntervalToEnglish a0 g0
  refine (X.laws_FnExactIntervalToEnglish.calls k _ _ true W (table hL) hk).mono ?_
  rintro e W' ⟨he, bel0⟩
  have bel : Below W.heap.size W W' := by first | exact bel0 | exact bel0.below
  subst he
  exact ⟨_, rfl, _, _, _, [], _, [], hW', trodAll_mk1 (shut_bool Tryd.underlying4 _), (trodAll_cons_mk (Below.trod laidOut (by kernel_rfl) (of_decide_eq_true (by kernel_rfl)) kk0 bel lt0) trodAll_mk0), rfl, bel.frame _, fun h => by cases h⟩
theorem over : Rows.fnExactIntervalToEnglishRow.holds Tryd.pinned (OpenSpec.ofChange Rows.fnExactIntervalToEnglishSpec) :=
  OpenClaim.holds_of_wide 4 Tryd.f4 rfl rfl rfl rfl rfl rfl rfl ⟨rfl, rfl, rfl, rfl, rfl⟩ rfl rfl rfl rfl rfl (by kernel_rfl) Tryd.func4 (by kernel_rfl)
    (of_decide_eq_true (by kernel_rfl)) (by unfold Func.isWrapper; first | (rw [if_pos (by decide +kernel)]; kernel_rfl) | (rw [if_neg (by decide +kernel)]; exact ⟨rfl, rfl⟩))
    (fun os started H enc _ => lifted os started H enc)
theorem proved : Rows.FnExactIntervalToEnglishSaid := over
#print axioms proved
theorem plain (f : FuncId) (fn : Func) (hf : Tryd.pinned.checked.prog.funcNamed "loop.example/g00876/laws.FnExactIntervalToEnglish" = some f) (hfn : Tryd.pinned.checked.prog.funcs[f]? = some fn) :
    true = Tryd.pinned.checked.prog.looks [] ∧ ∀ (j : Nat) t, fn.params[j]? = some t → Tryd.pinned.checked.prog.wantsStandIn t = false := by
  obtain rfl : f = 4 := Option.some.inj ((show Tryd.prog.funcNamed "loop.example/g00876/laws.FnExactIntervalToEnglish" = some 4 by kernel_rfl).symm.trans hf) |>.symm
  obtain rfl : fn = Tryd.f4 := (Option.some.inj (Tryd.func4.symm.trans hfn)).symm
  refine ⟨by kernel_rfl, fun j t ht => ?_⟩
  rw [Tryd.params4] at ht
  have hm := Array.mem_of_getElem? ht
  simp only [List.mem_toArray, List.mem_cons, List.not_mem_nil, or_false] at hm
  rcases hm with rfl
  exact (show Tryd.prog.wantsStandIn 26 = false by kernel_rfl)
theorem card : Rows.FnExactIntervalToEnglishCardSaid :=
  Claim7.holds_tied_plain_at .later [] _ _ _ _ proved (fun _ h => by cases h) (by kernel_rfl) (fun _ h => by cases h) fnExactIntervalToEnglish_row_tie rfl ⟨rfl, rfl⟩ (by kernel_rfl) rfl plain (by kernel_rfl)
#print axioms card
end Go.Proofs.YtfkaiiconllbhaaDoor.fnExactIntervalToEnglish
namespace Go.Proofs.YtfkaiiconllbhaaDoor
/-- The row, under a short name, for the claim. -/
theorem fnExactIntervalToEnglish_holds : Rows.FnExactIntervalToEnglishSaid := fnExactIntervalToEnglish.proved
/-- The card, under a short name. -/
theorem fnExactIntervalToEnglishCard_holds : Rows.FnExactIntervalToEnglishCardSaid := fnExactIntervalToEnglish.card
end Go.Proofs.YtfkaiiconllbhaaDoor
