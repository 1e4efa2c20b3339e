/- For every row of bytes the law FnAnswers answers true: clearing hidden answers changes no visible field and leaves none hidden, and an answer that is set is there. No condition.
This file (part 6 of 6) holds what the proof needs: plain functions with rounds and contracts written by programs of this work over the translation, and the lemmas. -/
import Derived.Test.YtiaiohoadefgjaaDoorZFnAnswers2
import Derived.Test.YtiaiohoadefgjaaDoorZFnAnswers3
import Derived.Laws.BitsAllLaws
import Derived.Lib.Strings
import Derived.Test.YtiaiohoadefgjaaDoorZFnAnswers4
import Derived.Test.YtiaiohoadefgjaaDoorZFnAnswers5
import Derived.Lib.ItoaNum
import Derived.Lib.ItoaLen
import Derived.Lib.AtoiAllCases
import Derived.Test.YtiaiohoadefgjaaDoorTie
import Derived.Test.YtiaiohoadefgjaaDoorCards
import Derived.Test.YtiaiohoadefgjaaDoorRows
import Derived.WalkKit
import Derived.ProofKit
import Derived.OpenShut
import Derived.ShutString
import Derived.ChangeOld
import Derived.Below
import Derived.SizedLaws
import Derived.Lib.SmallJoins
import Derived.LaidMore
import Derived.Stop.Joined
import Derived.Stop.LaidErr
import Derived.Lib.LaidTab
import Derived.LaidSub
import Derived.Handed
import Derived.SevenTiedAt
set_option linter.unusedVariables false
set_option linter.unusedSimpArgs false
namespace Go.Proofs.YtiaiohoadefgjaaDoor.X
open Go.RowKit Go.Proofs.YtiaiohoadefgjaaDoorW.PrintWords Go.Proofs.YtiaiohoadefgjaaDoor.E
def Cu (l : List Int) (a : Int) : Prop := l.length ≤ 9223372036854775807 ∧ (∀ y ∈ l, 0 ≤ y ∧ y ≤ 255) ∧ 0 ≤ a ∧ a ≤ 1000000
theorem u64w (x : Int) : 0 ≤ IntKind.u64.wrap x ∧ IntKind.u64.wrap x < 18446744073709551616 := by
 have h : IntKind.u64.wrap x = x % 18446744073709551616 := by simp [IntKind.wrap, IntKind.bits, IntKind.signed]
 rw [h]
 omega
theorem and255 (x : Int) : 0 ≤ wrap64 (Go.bits .and .u64 (IntKind.u64.wrap x / 1099511627776) 255) ∧ wrap64 (Go.bits .and .u64 (IntKind.u64.wrap x / 1099511627776) 255) ≤ 255 := by
 have h := u64w x
 have h2 : 0 ≤ IntKind.u64.wrap x / 1099511627776 ∧ IntKind.u64.wrap x / 1099511627776 < 18446744073709551616 := by omega
 rw [u64_and _ _ h2.1 h2.2 (by omega) (by omega)]
 have h3 : (IntKind.u64.wrap x / 1099511627776).toNat &&& (255 : Int).toNat ≤ 255 := Nat.and_le_right
 generalize (IntKind.u64.wrap x / 1099511627776).toNat &&& (255 : Int).toNat = q at h3
 rw [wrap_id (by omega) (by omega)]
 omega
theorem next_tot {l : List Int} {a : Int} (s : Int) (h : Cu l a) (hb : a ≤ 999999) : ∃ v a' s', spec_l1Cur_next.f l a s = some (v, a', s') ∧ (0 ≤ v ∧ v ≤ 255) ∧ Cu l a' ∧ a' = a + 1 := by
 obtain ⟨h1, h2, h3, h4⟩ := h
 have hw : wrap64 (a + 1) = a + 1 := wrap_id (by omega) (by omega)
 have hc : Cu l (a + 1) := ⟨h1, h2, by omega, by omega⟩
 unfold spec_l1Cur_next.f
 rw [hw]
 by_cases c : a < (l.length : Int)
 ·have hr : 0 ≤ rd l a ∧ rd l a ≤ 255 := by
   have e : rd l a = l[a.toNat]'(by omega) := by show l.getD a.toNat 0 = _; rw [getD_in (by omega)]
   rw [e]
   exact h2 _ (List.getElem_mem _)
  rw [if_pos c, if_pos h3]
  by_cases d : a + 1 ≤ (l.length : Int)
  ·rw [if_pos d]
   exact ⟨_, _, _, rfl, by rw [wrap_id (by omega) (by omega)]; exact hr, hc, rfl⟩
  ·rw [if_neg d]
   exact ⟨_, _, _, rfl, and255 _, hc, rfl⟩
 ·rw [if_neg c]
  by_cases d : a + 1 ≤ (l.length : Int)
  ·rw [if_pos d]
   exact ⟨_, _, _, rfl, by omega, hc, rfl⟩
  ·rw [if_neg d]
   exact ⟨_, _, _, rfl, and255 _, hc, rfl⟩
theorem tmod_in {x n : Int} (hx : 0 ≤ x) (hn : 0 < n) : 0 ≤ Int.tmod x n ∧ Int.tmod x n < n := by
 rw [Int.tmod_eq_emod_of_nonneg hx]
 exact ⟨Int.emod_nonneg _ (by omega), Int.emod_lt_of_pos _ hn⟩
theorem pick_tot {l : List Int} {a : Int} (s n : Int) (h : Cu l a) (hb : a ≤ 999990) : ∃ v a' s', spec_l1Cur_pick.f l a s n = some (v, a', s') ∧ 0 ≤ v ∧ (v < n ∨ v = 0) ∧ Cu l a' ∧ (a ≤ a' ∧ a' ≤ a + 2) := by
 unfold spec_l1Cur_pick.f
 by_cases c : n ≤ 1
 ·rw [if_pos c]
  exact ⟨0, a, s, rfl, by omega, .inr rfl, h, by omega, by omega⟩
 rw [if_neg c]
 obtain ⟨v1, a1, s1, e1, hv1, hc1, ha1⟩ := next_tot s h (by omega)
 rw [e1, Option.bind_some]
 by_cases d : n > 200
 ·obtain ⟨v2, a2, s2, e2, hv2, hc2, ha2⟩ := next_tot s1 hc1 (by omega)
  have hw : wrap64 ((wrap64 (v1 * 256)) + v2) = v1 * 256 + v2 := by rw [wrap_id (x := v1 * 256) (by omega) (by omega), wrap_id (by omega) (by omega)]
  rw [if_pos d]
  dsimp only
  rw [e2, Option.bind_some, if_neg (by omega)]
  have ht := tmod_in (x := wrap64 ((wrap64 (v1 * 256)) + v2)) (n := n) (by rw [hw]; omega) (by omega)
  exact ⟨_, _, _, rfl, ht.1, .inl ht.2, hc2, by dsimp only; omega, by dsimp only; omega⟩
 ·rw [if_neg d, if_neg (by omega)]
  have ht := tmod_in (x := v1) (n := n) (by omega) (by omega)
  exact ⟨_, _, _, rfl, ht.1, .inl ht.2, hc1, by dsimp only; omega, by dsimp only; omega⟩
theorem pick_in {l : List Int} {a : Int} (s n : Int) (hn : 1 ≤ n) (h : Cu l a) (hb : a ≤ 999990) : ∃ v a' s', spec_l1Cur_pick.f l a s n = some (v, a', s') ∧ (0 ≤ v ∧ v < n) ∧ Cu l a' ∧ (a ≤ a' ∧ a' ≤ a + 2) := by
 obtain ⟨v, a', s', e, h0, h1, h2, h3⟩ := pick_tot s n h hb
 refine ⟨v, a', s', e, ⟨h0, ?_⟩, h2, h3⟩
 rcases h1 with h1 | h1
 ·exact h1
 ·omega
end Go.Proofs.YtiaiohoadefgjaaDoor.X
namespace Go.Proofs.YtiaiohoadefgjaaDoor.X
open Go.RowKit Go.Proofs.YtiaiohoadefgjaaDoorW.PrintWords Go.Proofs.YtiaiohoadefgjaaDoorW.PrintLast Go.Proofs.YtiaiohoadefgjaaDoorW.PrintMore
attribute [local go_sem] max2_int min2_int max_two min_two max_three min_three max_four min_four
set_option linter.unusedVariables false
set_option linter.unusedSimpArgs false
attribute [-simp] ByteArray.size_append ByteArray.size_extract
attribute [-go_sem] ByteArray.size_append'
/-! ### spec_l1Cur_spoilt: function 36 -/
def spec_l1Cur_spoilt.f (s0_0 : List Int) (s0_1 : Int) (s0_2 : Int) (a1 : ByteArray) (a2 : ByteArray) : Option (ByteArray × Int × Int) := if a1.toList = ([] : List UInt8) then (if 0 ≤ 1 then (if 1 ≤ (a2.size : Int) then (some (a2.extract 0 1, s0_1, s0_2)) else (none)) else (none)) else ((spec_l1Cur_pick.f s0_0 s0_1 s0_2 (a1.size : Int)).bind fun bt101 => ((spec_l1Cur_pick.f s0_0 bt101.2.1 bt101.2.2 (a2.size : Int)).bind fun bt104 => (if 0 ≤ bt104.1 then (if bt104.1 ≤ (a2.size : Int) then (if 0 ≤ 1 then (if 1 ≤ ((a2.extract (bt104.1 : Int).toNat a2.size).size : Int) then ((spec_l1Cur_pick.f s0_0 bt104.2.1 bt104.2.2 3).bind fun bt107 => (if bt107.1 = 0 then (if 0 ≤ bt101.1 then (if bt101.1 ≤ (a1.size : Int) then (if (a1.extract 0 (bt101.1 : Int).toNat).size + ((a2.extract (bt104.1 : Int).toNat a2.size).extract 0 1).size ≤ 9223372036854775807 then (if ((a1.extract 0 (bt101.1 : Int).toNat) ++ ((a2.extract (bt104.1 : Int).toNat a2.size).extract 0 1)).size + (a1.extract (bt101.1 : Int).toNat a1.size).size ≤ 9223372036854775807 then (some (((a1.extract 0 (bt101.1 : Int).toNat) ++ ((a2.extract (bt104.1 : Int).toNat a2.size).extract 0 1)) ++ (a1.extract (bt101.1 : Int).toNat a1.size), bt107.2.1, bt107.2.2)) else (none)) else (none)) else (none)) else (none)) else (if bt107.1 = 1 then (if 0 ≤ bt101.1 then (if bt101.1 ≤ (a1.size : Int) then (if (a1.extract 0 (bt101.1 : Int).toNat).size + ((a2.extract (bt104.1 : Int).toNat a2.size).extract 0 1).size ≤ 9223372036854775807 then (if 0 ≤ (wrap64 (bt101.1 + 1)) then (if (wrap64 (bt101.1 + 1)) ≤ (a1.size : Int) then (if ((a1.extract 0 (bt101.1 : Int).toNat) ++ ((a2.extract (bt104.1 : Int).toNat a2.size).extract 0 1)).size + (a1.extract ((wrap64 (bt101.1 + 1)) : Int).toNat a1.size).size ≤ 9223372036854775807 then (some (((a1.extract 0 (bt101.1 : Int).toNat) ++ ((a2.extract (bt104.1 : Int).toNat a2.size).extract 0 1)) ++ (a1.extract ((wrap64 (bt101.1 + 1)) : Int).toNat a1.size), bt107.2.1, bt107.2.2)) else (none)) else (none)) else (none)) else (none)) else (none)) else (none)) else (if 0 ≤ bt101.1 then (if bt101.1 ≤ (a1.size : Int) then (if 0 ≤ (wrap64 (bt101.1 + 1)) then (if (wrap64 (bt101.1 + 1)) ≤ (a1.size : Int) then (if (a1.extract 0 (bt101.1 : Int).toNat).size + (a1.extract ((wrap64 (bt101.1 + 1)) : Int).toNat a1.size).size ≤ 9223372036854775807 then (some ((a1.extract 0 (bt101.1 : Int).toNat) ++ (a1.extract ((wrap64 (bt101.1 + 1)) : Int).toNat a1.size), bt107.2.1, bt107.2.2)) else (none)) else (none)) else (none)) else (none)) else (none))))) else (none)) else (none)) else (none)) else (none))))
set_option maxHeartbeats 8000000 in
set_option maxRecDepth 100000 in
theorem spec_l1Cur_spoilt.calls (g : Nat) (s0_0 : List Int) (s0_1 : Int) (s0_2 : Int) (a1 : ByteArray) (a2 : ByteArray) (r1 : ByteArray) (r2 : Int) (r3 : Int) (w0 w : World) (hI : IsS65 w0 w g s0_0 s0_1 s0_2) (hB : Below w0.heap.size w0 w) (h : spec_l1Cur_spoilt.f s0_0 s0_1 s0_2 a1 a2 = some (r1, r2, r3)) :
  Calls Tryd.prog 36 #[.pointer (some ⟨g, 0, none⟩), .string a1, .string a2] w fun e w' => e = .returned (.string r1) ∧ IsS65 w0 w' g s0_0 r2 r3 ∧ Below w0.heap.size w0 w' ∧ KeepBut w w' g none := by
 (have HI0 := Aside0.mk hI); (have HK := Aside0.mk (KeepBut.refl w g none)); (have HL := Aside0.mk hB.size); clear hI; (have HW0 := Aside0.mk hB.size); (have HB := Aside0.mk hB); clear hB; (unfold spec_l1Cur_spoilt.f at h); (have H := h); clear h; (by_cases c4 : a1.toList = ([] : List UInt8))
 ·rw [if_pos c4] at H
  (have c4b0 : a1.toList.isEmpty = true := List.isEmpty_iff.mpr c4); (have c4b1 : (!a1.toList.isEmpty) = false := by rw [List.isEmpty_iff.mpr c4]; rfl); (have c4b2 : (a1.toList == ([] : List UInt8)) = true := beq_iff_eq.mpr c4); (have c4b3 : (a1.toList != ([] : List UInt8)) = false := bne_eq_false_iff_eq.mpr c4); clear c4; (by_cases c5 : 0 ≤ 1)
  ·rw [if_pos c5] at H
   (have c5b0 := eq_true c5); (have c5b1 := decide_eq_true c5); clear c5; (by_cases c6 : 1 ≤ (a2.size : Int)); (· (rw [if_pos c6] at H); (have c6b0 := eq_true c6); (have c6b1 := decide_eq_true c6); clear c6; (simp only [Option.some.injEq, Prod.mk.injEq] at H); (obtain ⟨rfl, rfl, rfl⟩ := H); (go_enter Tryd.func36, Tryd.ntmps36); (go_wp2); (repeat (go_quiet (fail); try go_wp2)); go_ret; (exact Q0)); (· (rw [if_neg c6] at H); (exact Q1))
  ·rw [if_neg c5] at H
   exact Q1
 ·rw [if_neg c4] at H
  (have c4b0 : a1.toList.isEmpty = false := Q192); (have c4b1 : (!a1.toList.isEmpty) = true := by rw [show a1.toList.isEmpty = false from Q192]; rfl); (have c4b2 : (a1.toList == ([] : List UInt8)) = false := beq_eq_false_iff_ne.mpr c4); (have c4b3 : (a1.toList != ([] : List UInt8)) = true := bne_iff_ne.mpr c4); (replace H := obS H); (obtain ⟨⟨t101, t102, t103⟩, A7, H⟩ := H); (replace H : ((spec_l1Cur_pick.f s0_0 t102 t103 (a2.size : Int)).bind fun bt104 => (if 0 ≤ bt104.1 then (if bt104.1 ≤ (a2.size : Int) then (if 0 ≤ 1 then (if 1 ≤ ((a2.extract (bt104.1 : Int).toNat a2.size).size : Int) then ((spec_l1Cur_pick.f s0_0 bt104.2.1 bt104.2.2 3).bind fun bt107 => (if bt107.1 = 0 then (if 0 ≤ t101 then (if t101 ≤ (a1.size : Int) then (if (a1.extract 0 (t101 : Int).toNat).size + ((a2.extract (bt104.1 : Int).toNat a2.size).extract 0 1).size ≤ 9223372036854775807 then (if ((a1.extract 0 (t101 : Int).toNat) ++ ((a2.extract (bt104.1 : Int).toNat a2.size).extract 0 1)).size + (a1.extract (t101 : Int).toNat a1.size).size ≤ 9223372036854775807 then (some (((a1.extract 0 (t101 : Int).toNat) ++ ((a2.extract (bt104.1 : Int).toNat a2.size).extract 0 1)) ++ (a1.extract (t101 : Int).toNat a1.size), bt107.2.1, bt107.2.2)) else (none)) else (none)) else (none)) else (none)) else (if bt107.1 = 1 then (if 0 ≤ t101 then (if t101 ≤ (a1.size : Int) then (if (a1.extract 0 (t101 : Int).toNat).size + ((a2.extract (bt104.1 : Int).toNat a2.size).extract 0 1).size ≤ 9223372036854775807 then (if 0 ≤ (wrap64 (t101 + 1)) then (if (wrap64 (t101 + 1)) ≤ (a1.size : Int) then (if ((a1.extract 0 (t101 : Int).toNat) ++ ((a2.extract (bt104.1 : Int).toNat a2.size).extract 0 1)).size + (a1.extract ((wrap64 (t101 + 1)) : Int).toNat a1.size).size ≤ 9223372036854775807 then (some (((a1.extract 0 (t101 : Int).toNat) ++ ((a2.extract (bt104.1 : Int).toNat a2.size).extract 0 1)) ++ (a1.extract ((wrap64 (t101 + 1)) : Int).toNat a1.size), bt107.2.1, bt107.2.2)) else (none)) else (none)) else (none)) else (none)) else (none)) else (none)) else (if 0 ≤ t101 then (if t101 ≤ (a1.size : Int) then (if 0 ≤ (wrap64 (t101 + 1)) then (if (wrap64 (t101 + 1)) ≤ (a1.size : Int) then (if (a1.extract 0 (t101 : Int).toNat).size + (a1.extract ((wrap64 (t101 + 1)) : Int).toNat a1.size).size ≤ 9223372036854775807 then (some ((a1.extract 0 (t101 : Int).toNat) ++ (a1.extract ((wrap64 (t101 + 1)) : Int).toNat a1.size), bt107.2.1, bt107.2.2)) else (none)) else (none)) else (none)) else (none)) else (none))))) else (none)) else (none)) else (none)) else (none))) = some (r1, r2, r3) := H); (replace H := obS H); (obtain ⟨⟨t104, t105, t106⟩, A8, H⟩ := H); (replace H : (if 0 ≤ t104 then (if t104 ≤ (a2.size : Int) then (if 0 ≤ 1 then (if 1 ≤ ((a2.extract (t104 : Int).toNat a2.size).size : Int) then ((spec_l1Cur_pick.f s0_0 t105 t106 3).bind fun bt107 => (if bt107.1 = 0 then (if 0 ≤ t101 then (if t101 ≤ (a1.size : Int) then (if (a1.extract 0 (t101 : Int).toNat).size + ((a2.extract (t104 : Int).toNat a2.size).extract 0 1).size ≤ 9223372036854775807 then (if ((a1.extract 0 (t101 : Int).toNat) ++ ((a2.extract (t104 : Int).toNat a2.size).extract 0 1)).size + (a1.extract (t101 : Int).toNat a1.size).size ≤ 9223372036854775807 then (some (((a1.extract 0 (t101 : Int).toNat) ++ ((a2.extract (t104 : Int).toNat a2.size).extract 0 1)) ++ (a1.extract (t101 : Int).toNat a1.size), bt107.2.1, bt107.2.2)) else (none)) else (none)) else (none)) else (none)) else (if bt107.1 = 1 then (if 0 ≤ t101 then (if t101 ≤ (a1.size : Int) then (if (a1.extract 0 (t101 : Int).toNat).size + ((a2.extract (t104 : Int).toNat a2.size).extract 0 1).size ≤ 9223372036854775807 then (if 0 ≤ (wrap64 (t101 + 1)) then (if (wrap64 (t101 + 1)) ≤ (a1.size : Int) then (if ((a1.extract 0 (t101 : Int).toNat) ++ ((a2.extract (t104 : Int).toNat a2.size).extract 0 1)).size + (a1.extract ((wrap64 (t101 + 1)) : Int).toNat a1.size).size ≤ 9223372036854775807 then (some (((a1.extract 0 (t101 : Int).toNat) ++ ((a2.extract (t104 : Int).toNat a2.size).extract 0 1)) ++ (a1.extract ((wrap64 (t101 + 1)) : Int).toNat a1.size), bt107.2.1, bt107.2.2)) else (none)) else (none)) else (none)) else (none)) else (none)) else (none)) else (if 0 ≤ t101 then (if t101 ≤ (a1.size : Int) then (if 0 ≤ (wrap64 (t101 + 1)) then (if (wrap64 (t101 + 1)) ≤ (a1.size : Int) then (if (a1.extract 0 (t101 : Int).toNat).size + (a1.extract ((wrap64 (t101 + 1)) : Int).toNat a1.size).size ≤ 9223372036854775807 then (some ((a1.extract 0 (t101 : Int).toNat) ++ (a1.extract ((wrap64 (t101 + 1)) : Int).toNat a1.size), bt107.2.1, bt107.2.2)) else (none)) else (none)) else (none)) else (none)) else (none))))) else (none)) else (none)) else (none)) else (none)) = some (r1, r2, r3) := H); (by_cases c9 : 0 ≤ t104)
  ·rw [if_pos c9] at H
   (have c9b0 := eq_true c9); (have c9b1 := decide_eq_true c9); clear c9; (by_cases c10 : t104 ≤ (a2.size : Int))
   ·rw [if_pos c10] at H
    (have c10b0 := eq_true c10); (have c10b1 := decide_eq_true c10); clear c10; (by_cases c11 : 0 ≤ 1)
    ·rw [if_pos c11] at H
     (have c11b0 := eq_true c11); (have c11b1 := decide_eq_true c11); clear c11; (by_cases c12 : 1 ≤ ((a2.extract (t104 : Int).toNat a2.size).size : Int))
     ·rw [if_pos c12] at H
      (have c12b0 := eq_true c12); (have c12b1 := decide_eq_true c12); (try have c12n0 := c12b0); (try (push_cast [Int.toNat_natCast, ByteArray.size_append] at c12n0)); (try have c12n1 := c12b1); (try (push_cast [Int.toNat_natCast, ByteArray.size_append] at c12n1)); clear c12; (replace H := obS H); (obtain ⟨⟨t107, t108, t109⟩, A13, H⟩ := H); (replace H : (if t107 = 0 then (if 0 ≤ t101 then (if t101 ≤ (a1.size : Int) then (if (a1.extract 0 (t101 : Int).toNat).size + ((a2.extract (t104 : Int).toNat a2.size).extract 0 1).size ≤ 9223372036854775807 then (if ((a1.extract 0 (t101 : Int).toNat) ++ ((a2.extract (t104 : Int).toNat a2.size).extract 0 1)).size + (a1.extract (t101 : Int).toNat a1.size).size ≤ 9223372036854775807 then (some (((a1.extract 0 (t101 : Int).toNat) ++ ((a2.extract (t104 : Int).toNat a2.size).extract 0 1)) ++ (a1.extract (t101 : Int).toNat a1.size), t108, t109)) else (none)) else (none)) else (none)) else (none)) else (if t107 = 1 then (if 0 ≤ t101 then (if t101 ≤ (a1.size : Int) then (if (a1.extract 0 (t101 : Int).toNat).size + ((a2.extract (t104 : Int).toNat a2.size).extract 0 1).size ≤ 9223372036854775807 then (if 0 ≤ (wrap64 (t101 + 1)) then (if (wrap64 (t101 + 1)) ≤ (a1.size : Int) then (if ((a1.extract 0 (t101 : Int).toNat) ++ ((a2.extract (t104 : Int).toNat a2.size).extract 0 1)).size + (a1.extract ((wrap64 (t101 + 1)) : Int).toNat a1.size).size ≤ 9223372036854775807 then (some (((a1.extract 0 (t101 : Int).toNat) ++ ((a2.extract (t104 : Int).toNat a2.size).extract 0 1)) ++ (a1.extract ((wrap64 (t101 + 1)) : Int).toNat a1.size), t108, t109)) else (none)) else (none)) else (none)) else (none)) else (none)) else (none)) else (if 0 ≤ t101 then (if t101 ≤ (a1.size : Int) then (if 0 ≤ (wrap64 (t101 + 1)) then (if (wrap64 (t101 + 1)) ≤ (a1.size : Int) then (if (a1.extract 0 (t101 : Int).toNat).size + (a1.extract ((wrap64 (t101 + 1)) : Int).toNat a1.size).size ≤ 9223372036854775807 then (some ((a1.extract 0 (t101 : Int).toNat) ++ (a1.extract ((wrap64 (t101 + 1)) : Int).toNat a1.size), t108, t109)) else (none)) else (none)) else (none)) else (none)) else (none)))) = some (r1, r2, r3) := H); (by_cases c14 : t107 = 0)
      ·rw [if_pos c14] at H
       (have c14b0 : (t107 == 0) = true := beq_iff_eq.mpr c14); (have c14b1 : (t107 != 0) = false := bne_eq_false_iff_eq.mpr c14); clear c14; (by_cases c15 : 0 ≤ t101)
       ·rw [if_pos c15] at H
        (have c15b0 := eq_true c15); (have c15b1 := decide_eq_true c15); clear c15; (by_cases c16 : t101 ≤ (a1.size : Int))
        ·rw [if_pos c16] at H
         (have c16b0 := eq_true c16); (have c16b1 := decide_eq_true c16); clear c16; (by_cases c17 : (a1.extract 0 (t101 : Int).toNat).size + ((a2.extract (t104 : Int).toNat a2.size).extract 0 1).size ≤ 9223372036854775807)
         ·rw [if_pos c17] at H
          (have c17b0 := eq_true c17); (have c17b1 := decide_eq_true c17); (try have c17n0 := c17b0); (try (push_cast [Int.toNat_natCast, ByteArray.size_append] at c17n0)); (try have c17n1 := c17b1); (try (push_cast [Int.toNat_natCast, ByteArray.size_append] at c17n1)); (try have c17b2 : (9223372036854775807 < (a1.extract 0 (t101 : Int).toNat).size + ((a2.extract (t104 : Int).toNat a2.size).extract 0 1).size) = False := eq_false (Nat.not_lt.2 c17)); (try have c17b3 := c17b2); (try simp only [show (a1.extract 0 (t101 : Int).toNat).size = (t101 : Int).toNat - 0 from Q193, show (a2.extract (t104 : Int).toNat a2.size).size = a2.size - (t104 : Int).toNat from Q193, show ((a2.extract (t104 : Int).toNat a2.size).extract 0 1).size = 1 - 0 from Q193, ByteArray.size_append] at c17b3); (have c18b0 := eq_true (odt : 0 ≤ t101)); (have c19b0 := eq_true (odt : t101 ≤ (a1.size : Int))); (by_cases c20 : ((a1.extract 0 (t101 : Int).toNat) ++ ((a2.extract (t104 : Int).toNat a2.size).extract 0 1)).size + (a1.extract (t101 : Int).toNat a1.size).size ≤ 9223372036854775807)
          ·rw [if_pos c20] at H
           (have c20b0 := eq_true c20); (have c20b1 := decide_eq_true c20); (try have c20n0 := c20b0); (try (push_cast [Int.toNat_natCast, ByteArray.size_append] at c20n0)); (try have c20n1 := c20b1); (try (push_cast [Int.toNat_natCast, ByteArray.size_append] at c20n1)); (try have c20b2 : (9223372036854775807 < ((a1.extract 0 (t101 : Int).toNat) ++ ((a2.extract (t104 : Int).toNat a2.size).extract 0 1)).size + (a1.extract (t101 : Int).toNat a1.size).size) = False := eq_false (Nat.not_lt.2 c20)); (try have c20b3 := c20b2); (try simp only [show (a1.extract 0 (t101 : Int).toNat).size = (t101 : Int).toNat - 0 from Q193, show (a2.extract (t104 : Int).toNat a2.size).size = a2.size - (t104 : Int).toNat from Q193, show ((a2.extract (t104 : Int).toNat a2.size).extract 0 1).size = 1 - 0 from Q193, show (a1.extract (t101 : Int).toNat a1.size).size = a1.size - (t101 : Int).toNat from Q193, ByteArray.size_append] at c20b3); (simp only [Option.some.injEq, Prod.mk.injEq] at H); (obtain ⟨rfl, rfl, rfl⟩ := H); (go_enter Tryd.func36, Tryd.ntmps36); (go_wp2_with (first | (go_at_call 60; (with_reducible refine (spec_l1Cur_pick.calls g s0_0 s0_1 s0_2 (a1.size : Int) t101 t102 t103 w0 _ ?side1 ?side2 A7.out).mono ?_); (case side1 => repeat (first | (with_reducible first | exact HI0.out | apply IsS65.alloc | apply IsS65.drewN | apply IsS65.drew | apply IsS65.set_1 | apply IsS65.set_2) | exact HI0.out)); (case side2 => repeat (first | (with_reducible first | exact HB.out | apply bA | apply bN | apply bD | refine below_set ?_ (IsS65.ge HI0.out)) | exact HB.out)); rintro e w21 ⟨rfl, hi, hb, hk⟩; have n0_ := Aside0.mk (KeepBut.trans Q2 hk (.inl rfl)); have n1_ := Aside0.mk (hb); have n2_ := Aside0.mk (hi); clear HK HB HI0; have HK := n0_; have HB := n1_; have HI0 := n2_; clear n0_ n1_ n2_; (try clear hb); (try clear hb2); (try clear hk); (try clear hi)) | (go_at_call 60; (with_reducible refine (spec_l1Cur_pick.calls g s0_0 t102 t103 (a2.size : Int) t104 t105 t106 w0 _ ?side1 ?side2 A8.out).mono ?_); (case side1 => repeat (first | (with_reducible first | exact HI0.out | apply IsS65.alloc | apply IsS65.drewN | apply IsS65.drew | apply IsS65.set_1 | apply IsS65.set_2) | exact HI0.out)); (case side2 => repeat (first | (with_reducible first | exact HB.out | apply bA | apply bN | apply bD | refine below_set ?_ (IsS65.ge HI0.out)) | exact HB.out)); rintro e w22 ⟨rfl, hi, hb, hk⟩; have n0_ := Aside0.mk (KeepBut.trans Q2 hk (.inl rfl)); have n1_ := Aside0.mk (hb); have n2_ := Aside0.mk (hi); clear HK HB HI0; have HK := n0_; have HB := n1_; have HI0 := n2_; clear n0_ n1_ n2_; (try clear hb); (try clear hb2); (try clear hk); (try clear hi)) | (go_at_call 60; (with_reducible refine (spec_l1Cur_pick.calls g s0_0 t105 t106 3 t107 t108 t109 w0 _ ?side1 ?side2 A13.out).mono ?_); (case side1 => repeat (first | (with_reducible first | exact HI0.out | apply IsS65.alloc | apply IsS65.drewN | apply IsS65.drew | apply IsS65.set_1 | apply IsS65.set_2) | exact HI0.out)); (case side2 => repeat (first | (with_reducible first | exact HB.out | apply bA | apply bN | apply bD | refine below_set ?_ (IsS65.ge HI0.out)) | exact HB.out)); rintro e w23 ⟨rfl, hi, hb, hk⟩; have n0_ := Aside0.mk (KeepBut.trans Q2 hk (.inl rfl)); have n1_ := Aside0.mk (hb); have n2_ := Aside0.mk (hi); clear HK HB HI0; have HK := n0_; have HB := n1_; have HI0 := n2_; clear n0_ n1_ n2_; (try clear hb); (try clear hb2); (try clear hk); (try clear hi))))
           (repeat (go_quiet (first | (go_at_call 60; (with_reducible refine (spec_l1Cur_pick.calls g s0_0 s0_1 s0_2 (a1.size : Int) t101 t102 t103 w0 _ ?side1 ?side2 A7.out).mono ?_); (case side1 => repeat (first | (with_reducible first | exact HI0.out | apply IsS65.alloc | apply IsS65.drewN | apply IsS65.drew | apply IsS65.set_1 | apply IsS65.set_2) | exact HI0.out)); (case side2 => repeat (first | (with_reducible first | exact HB.out | apply bA | apply bN | apply bD | refine below_set ?_ (IsS65.ge HI0.out)) | exact HB.out)); rintro e w21 ⟨rfl, hi, hb, hk⟩; have n0_ := Aside0.mk (KeepBut.trans Q2 hk (.inl rfl)); have n1_ := Aside0.mk (hb); have n2_ := Aside0.mk (hi); clear HK HB HI0; have HK := n0_; have HB := n1_; have HI0 := n2_; clear n0_ n1_ n2_; (try clear hb); (try clear hb2); (try clear hk); (try clear hi)) | (go_at_call 60; (with_reducible refine (spec_l1Cur_pick.calls g s0_0 t102 t103 (a2.size : Int) t104 t105 t106 w0 _ ?side1 ?side2 A8.out).mono ?_); (case side1 => repeat (first | (with_reducible first | exact HI0.out | apply IsS65.alloc | apply IsS65.drewN | apply IsS65.drew | apply IsS65.set_1 | apply IsS65.set_2) | exact HI0.out)); (case side2 => repeat (first | (with_reducible first | exact HB.out | apply bA | apply bN | apply bD | refine below_set ?_ (IsS65.ge HI0.out)) | exact HB.out)); rintro e w22 ⟨rfl, hi, hb, hk⟩; have n0_ := Aside0.mk (KeepBut.trans Q2 hk (.inl rfl)); have n1_ := Aside0.mk (hb); have n2_ := Aside0.mk (hi); clear HK HB HI0; have HK := n0_; have HB := n1_; have HI0 := n2_; clear n0_ n1_ n2_; (try clear hb); (try clear hb2); (try clear hk); (try clear hi)) | (go_at_call 60; (with_reducible refine (spec_l1Cur_pick.calls g s0_0 t105 t106 3 t107 t108 t109 w0 _ ?side1 ?side2 A13.out).mono ?_); (case side1 => repeat (first | (with_reducible first | exact HI0.out | apply IsS65.alloc | apply IsS65.drewN | apply IsS65.drew | apply IsS65.set_1 | apply IsS65.set_2) | exact HI0.out)); (case side2 => repeat (first | (with_reducible first | exact HB.out | apply bA | apply bN | apply bD | refine below_set ?_ (IsS65.ge HI0.out)) | exact HB.out)); rintro e w23 ⟨rfl, hi, hb, hk⟩; have n0_ := Aside0.mk (KeepBut.trans Q2 hk (.inl rfl)); have n1_ := Aside0.mk (hb); have n2_ := Aside0.mk (hi); clear HK HB HI0; have HK := n0_; have HB := n1_; have HI0 := n2_; clear n0_ n1_ n2_; (try clear hb); (try clear hb2); (try clear hk); (try clear hi))); try go_wp2_with (first | (go_at_call 60; (with_reducible refine (spec_l1Cur_pick.calls g s0_0 s0_1 s0_2 (a1.size : Int) t101 t102 t103 w0 _ ?side1 ?side2 A7.out).mono ?_); (case side1 => repeat (first | (with_reducible first | exact HI0.out | apply IsS65.alloc | apply IsS65.drewN | apply IsS65.drew | apply IsS65.set_1 | apply IsS65.set_2) | exact HI0.out)); (case side2 => repeat (first | (with_reducible first | exact HB.out | apply bA | apply bN | apply bD | refine below_set ?_ (IsS65.ge HI0.out)) | exact HB.out)); rintro e w21 ⟨rfl, hi, hb, hk⟩; have n0_ := Aside0.mk (KeepBut.trans Q2 hk (.inl rfl)); have n1_ := Aside0.mk (hb); have n2_ := Aside0.mk (hi); clear HK HB HI0; have HK := n0_; have HB := n1_; have HI0 := n2_; clear n0_ n1_ n2_; (try clear hb); (try clear hb2); (try clear hk); (try clear hi)) | (go_at_call 60; (with_reducible refine (spec_l1Cur_pick.calls g s0_0 t102 t103 (a2.size : Int) t104 t105 t106 w0 _ ?side1 ?side2 A8.out).mono ?_); (case side1 => repeat (first | (with_reducible first | exact HI0.out | apply IsS65.alloc | apply IsS65.drewN | apply IsS65.drew | apply IsS65.set_1 | apply IsS65.set_2) | exact HI0.out)); (case side2 => repeat (first | (with_reducible first | exact HB.out | apply bA | apply bN | apply bD | refine below_set ?_ (IsS65.ge HI0.out)) | exact HB.out)); rintro e w22 ⟨rfl, hi, hb, hk⟩; have n0_ := Aside0.mk (KeepBut.trans Q2 hk (.inl rfl)); have n1_ := Aside0.mk (hb); have n2_ := Aside0.mk (hi); clear HK HB HI0; have HK := n0_; have HB := n1_; have HI0 := n2_; clear n0_ n1_ n2_; (try clear hb); (try clear hb2); (try clear hk); (try clear hi)) | (go_at_call 60; (with_reducible refine (spec_l1Cur_pick.calls g s0_0 t105 t106 3 t107 t108 t109 w0 _ ?side1 ?side2 A13.out).mono ?_); (case side1 => repeat (first | (with_reducible first | exact HI0.out | apply IsS65.alloc | apply IsS65.drewN | apply IsS65.drew | apply IsS65.set_1 | apply IsS65.set_2) | exact HI0.out)); (case side2 => repeat (first | (with_reducible first | exact HB.out | apply bA | apply bN | apply bD | refine below_set ?_ (IsS65.ge HI0.out)) | exact HB.out)); rintro e w23 ⟨rfl, hi, hb, hk⟩; have n0_ := Aside0.mk (KeepBut.trans Q2 hk (.inl rfl)); have n1_ := Aside0.mk (hb); have n2_ := Aside0.mk (hi); clear HK HB HI0; have HK := n0_; have HB := n1_; have HI0 := n2_; clear n0_ n1_ n2_; (try clear hb); (try clear hb2); (try clear hk); (try clear hi))))); go_ret
           exact Q0
          ·rw [if_neg c20] at H
           exact Q1
         ·rw [if_neg c17] at H
          exact Q1
        ·rw [if_neg c16] at H
         exact Q1
       ·rw [if_neg c15] at H
        exact Q1
      ·rw [if_neg c14] at H
       (have c14b0 : (t107 == 0) = false := beq_eq_false_iff_ne.mpr c14); (have c14b1 : (t107 != 0) = true := bne_iff_ne.mpr c14); (by_cases c24 : t107 = 1)
       ·rw [if_pos c24] at H
        (have c24b0 : (t107 == 1) = true := beq_iff_eq.mpr c24); (have c24b1 : (t107 != 1) = false := bne_eq_false_iff_eq.mpr c24); clear c24; (by_cases c25 : 0 ≤ t101)
        ·rw [if_pos c25] at H
         (have c25b0 := eq_true c25); (have c25b1 := decide_eq_true c25); clear c25; (by_cases c26 : t101 ≤ (a1.size : Int))
         ·rw [if_pos c26] at H
          (have c26b0 := eq_true c26); (have c26b1 := decide_eq_true c26); clear c26; (by_cases c27 : (a1.extract 0 (t101 : Int).toNat).size + ((a2.extract (t104 : Int).toNat a2.size).extract 0 1).size ≤ 9223372036854775807)
          ·rw [if_pos c27] at H
           (have c27b0 := eq_true c27); (have c27b1 := decide_eq_true c27); (try have c27n0 := c27b0); (try (push_cast [Int.toNat_natCast, ByteArray.size_append] at c27n0)); (try have c27n1 := c27b1); (try (push_cast [Int.toNat_natCast, ByteArray.size_append] at c27n1)); (try have c27b2 : (9223372036854775807 < (a1.extract 0 (t101 : Int).toNat).size + ((a2.extract (t104 : Int).toNat a2.size).extract 0 1).size) = False := eq_false (Nat.not_lt.2 c27)); (try have c27b3 := c27b2); (try simp only [show (a1.extract 0 (t101 : Int).toNat).size = (t101 : Int).toNat - 0 from Q193, show (a2.extract (t104 : Int).toNat a2.size).size = a2.size - (t104 : Int).toNat from Q193, show ((a2.extract (t104 : Int).toNat a2.size).extract 0 1).size = 1 - 0 from Q193, ByteArray.size_append] at c27b3); (obtain ⟨ji28, hji28⟩ : ∃ j_ : Int, (wrap64 (t101 + 1)) = j_ := ⟨_, rfl⟩); (replace H : (if 0 ≤ (ji28) then (if (ji28) ≤ (a1.size : Int) then (if ((a1.extract 0 (t101 : Int).toNat) ++ ((a2.extract (t104 : Int).toNat a2.size).extract 0 1)).size + (a1.extract ((ji28) : Int).toNat a1.size).size ≤ 9223372036854775807 then (some (((a1.extract 0 (t101 : Int).toNat) ++ ((a2.extract (t104 : Int).toNat a2.size).extract 0 1)) ++ (a1.extract ((ji28) : Int).toNat a1.size), t108, t109)) else (none)) else (none)) else (none)) = some (r1, r2, r3) := by first | (rw [hji28] at H; exact H) | (simp only [hji28] at H ⊢; exact H)); ((try rw [hji28] at A7)); ((try rw [hji28] at A8)); ((try rw [hji28] at A13)); (have hji28w : (IntKind.i64.wrap (t101 + 1)) = ji28 := (i64_w _).trans hji28); (by_cases c29 : 0 ≤ (ji28))
           ·rw [if_pos c29] at H
            (have c29b0 := eq_true c29); (have c29b1 := decide_eq_true c29); clear c29; (by_cases c30 : (ji28) ≤ (a1.size : Int))
            ·rw [if_pos c30] at H
             (have c30b0 := eq_true c30); (have c30b1 := decide_eq_true c30); clear c30; (by_cases c31 : ((a1.extract 0 (t101 : Int).toNat) ++ ((a2.extract (t104 : Int).toNat a2.size).extract 0 1)).size + (a1.extract ((ji28) : Int).toNat a1.size).size ≤ 9223372036854775807)
             ·rw [if_pos c31] at H
              (have c31b0 := eq_true c31); (have c31b1 := decide_eq_true c31); (try have c31n0 := c31b0); (try (push_cast [Int.toNat_natCast, ByteArray.size_append] at c31n0)); (try have c31n1 := c31b1); (try (push_cast [Int.toNat_natCast, ByteArray.size_append] at c31n1)); (try have c31b2 : (9223372036854775807 < ((a1.extract 0 (t101 : Int).toNat) ++ ((a2.extract (t104 : Int).toNat a2.size).extract 0 1)).size + (a1.extract ((ji28) : Int).toNat a1.size).size) = False := eq_false (Nat.not_lt.2 c31)); (try have c31b3 := c31b2); (try simp only [show (a1.extract 0 (t101 : Int).toNat).size = (t101 : Int).toNat - 0 from Q193, show (a2.extract (t104 : Int).toNat a2.size).size = a2.size - (t104 : Int).toNat from Q193, show ((a2.extract (t104 : Int).toNat a2.size).extract 0 1).size = 1 - 0 from Q193, show (a1.extract ((ji28) : Int).toNat a1.size).size = a1.size - ((ji28) : Int).toNat from Q193, ByteArray.size_append] at c31b3); (simp only [Option.some.injEq, Prod.mk.injEq] at H); (obtain ⟨rfl, rfl, rfl⟩ := H); (go_enter Tryd.func36, Tryd.ntmps36); (go_wp2_with (first | (go_at_call 60; (with_reducible refine (spec_l1Cur_pick.calls g s0_0 s0_1 s0_2 (a1.size : Int) t101 t102 t103 w0 _ ?side1 ?side2 A7.out).mono ?_); (case side1 => repeat (first | (with_reducible first | exact HI0.out | apply IsS65.alloc | apply IsS65.drewN | apply IsS65.drew | apply IsS65.set_1 | apply IsS65.set_2) | exact HI0.out)); (case side2 => repeat (first | (with_reducible first | exact HB.out | apply bA | apply bN | apply bD | refine below_set ?_ (IsS65.ge HI0.out)) | exact HB.out)); rintro e w32 ⟨rfl, hi, hb, hk⟩; have n0_ := Aside0.mk (KeepBut.trans Q2 hk (.inl rfl)); have n1_ := Aside0.mk (hb); have n2_ := Aside0.mk (hi); clear HK HB HI0; have HK := n0_; have HB := n1_; have HI0 := n2_; clear n0_ n1_ n2_; (try clear hb); (try clear hb2); (try clear hk); (try clear hi)) | (go_at_call 60; (with_reducible refine (spec_l1Cur_pick.calls g s0_0 t102 t103 (a2.size : Int) t104 t105 t106 w0 _ ?side1 ?side2 A8.out).mono ?_); (case side1 => repeat (first | (with_reducible first | exact HI0.out | apply IsS65.alloc | apply IsS65.drewN | apply IsS65.drew | apply IsS65.set_1 | apply IsS65.set_2) | exact HI0.out)); (case side2 => repeat (first | (with_reducible first | exact HB.out | apply bA | apply bN | apply bD | refine below_set ?_ (IsS65.ge HI0.out)) | exact HB.out)); rintro e w33 ⟨rfl, hi, hb, hk⟩; have n0_ := Aside0.mk (KeepBut.trans Q2 hk (.inl rfl)); have n1_ := Aside0.mk (hb); have n2_ := Aside0.mk (hi); clear HK HB HI0; have HK := n0_; have HB := n1_; have HI0 := n2_; clear n0_ n1_ n2_; (try clear hb); (try clear hb2); (try clear hk); (try clear hi)) | (go_at_call 60; (with_reducible refine (spec_l1Cur_pick.calls g s0_0 t105 t106 3 t107 t108 t109 w0 _ ?side1 ?side2 A13.out).mono ?_); (case side1 => repeat (first | (with_reducible first | exact HI0.out | apply IsS65.alloc | apply IsS65.drewN | apply IsS65.drew | apply IsS65.set_1 | apply IsS65.set_2) | exact HI0.out)); (case side2 => repeat (first | (with_reducible first | exact HB.out | apply bA | apply bN | apply bD | refine below_set ?_ (IsS65.ge HI0.out)) | exact HB.out)); rintro e w34 ⟨rfl, hi, hb, hk⟩; have n0_ := Aside0.mk (KeepBut.trans Q2 hk (.inl rfl)); have n1_ := Aside0.mk (hb); have n2_ := Aside0.mk (hi); clear HK HB HI0; have HK := n0_; have HB := n1_; have HI0 := n2_; clear n0_ n1_ n2_; (try clear hb); (try clear hb2); (try clear hk); (try clear hi))))
              (repeat (go_quiet (first | (go_at_call 60; (with_reducible refine (spec_l1Cur_pick.calls g s0_0 s0_1 s0_2 (a1.size : Int) t101 t102 t103 w0 _ ?side1 ?side2 A7.out).mono ?_); (case side1 => repeat (first | (with_reducible first | exact HI0.out | apply IsS65.alloc | apply IsS65.drewN | apply IsS65.drew | apply IsS65.set_1 | apply IsS65.set_2) | exact HI0.out)); (case side2 => repeat (first | (with_reducible first | exact HB.out | apply bA | apply bN | apply bD | refine below_set ?_ (IsS65.ge HI0.out)) | exact HB.out)); rintro e w32 ⟨rfl, hi, hb, hk⟩; have n0_ := Aside0.mk (KeepBut.trans Q2 hk (.inl rfl)); have n1_ := Aside0.mk (hb); have n2_ := Aside0.mk (hi); clear HK HB HI0; have HK := n0_; have HB := n1_; have HI0 := n2_; clear n0_ n1_ n2_; (try clear hb); (try clear hb2); (try clear hk); (try clear hi)) | (go_at_call 60; (with_reducible refine (spec_l1Cur_pick.calls g s0_0 t102 t103 (a2.size : Int) t104 t105 t106 w0 _ ?side1 ?side2 A8.out).mono ?_); (case side1 => repeat (first | (with_reducible first | exact HI0.out | apply IsS65.alloc | apply IsS65.drewN | apply IsS65.drew | apply IsS65.set_1 | apply IsS65.set_2) | exact HI0.out)); (case side2 => repeat (first | (with_reducible first | exact HB.out | apply bA | apply bN | apply bD | refine below_set ?_ (IsS65.ge HI0.out)) | exact HB.out)); rintro e w33 ⟨rfl, hi, hb, hk⟩; have n0_ := Aside0.mk (KeepBut.trans Q2 hk (.inl rfl)); have n1_ := Aside0.mk (hb); have n2_ := Aside0.mk (hi); clear HK HB HI0; have HK := n0_; have HB := n1_; have HI0 := n2_; clear n0_ n1_ n2_; (try clear hb); (try clear hb2); (try clear hk); (try clear hi)) | (go_at_call 60; (with_reducible refine (spec_l1Cur_pick.calls g s0_0 t105 t106 3 t107 t108 t109 w0 _ ?side1 ?side2 A13.out).mono ?_); (case side1 => repeat (first | (with_reducible first | exact HI0.out | apply IsS65.alloc | apply IsS65.drewN | apply IsS65.drew | apply IsS65.set_1 | apply IsS65.set_2) | exact HI0.out)); (case side2 => repeat (first | (with_reducible first | exact HB.out | apply bA | apply bN | apply bD | refine below_set ?_ (IsS65.ge HI0.out)) | exact HB.out)); rintro e w34 ⟨rfl, hi, hb, hk⟩; have n0_ := Aside0.mk (KeepBut.trans Q2 hk (.inl rfl)); have n1_ := Aside0.mk (hb); have n2_ := Aside0.mk (hi); clear HK HB HI0; have HK := n0_; have HB := n1_; have HI0 := n2_; clear n0_ n1_ n2_; (try clear hb); (try clear hb2); (try clear hk); (try clear hi))); try go_wp2_with (first | (go_at_call 60; (with_reducible refine (spec_l1Cur_pick.calls g s0_0 s0_1 s0_2 (a1.size : Int) t101 t102 t103 w0 _ ?side1 ?side2 A7.out).mono ?_); (case side1 => repeat (first | (with_reducible first | exact HI0.out | apply IsS65.alloc | apply IsS65.drewN | apply IsS65.drew | apply IsS65.set_1 | apply IsS65.set_2) | exact HI0.out)); (case side2 => repeat (first | (with_reducible first | exact HB.out | apply bA | apply bN | apply bD | refine below_set ?_ (IsS65.ge HI0.out)) | exact HB.out)); rintro e w32 ⟨rfl, hi, hb, hk⟩; have n0_ := Aside0.mk (KeepBut.trans Q2 hk (.inl rfl)); have n1_ := Aside0.mk (hb); have n2_ := Aside0.mk (hi); clear HK HB HI0; have HK := n0_; have HB := n1_; have HI0 := n2_; clear n0_ n1_ n2_; (try clear hb); (try clear hb2); (try clear hk); (try clear hi)) | (go_at_call 60; (with_reducible refine (spec_l1Cur_pick.calls g s0_0 t102 t103 (a2.size : Int) t104 t105 t106 w0 _ ?side1 ?side2 A8.out).mono ?_); (case side1 => repeat (first | (with_reducible first | exact HI0.out | apply IsS65.alloc | apply IsS65.drewN | apply IsS65.drew | apply IsS65.set_1 | apply IsS65.set_2) | exact HI0.out)); (case side2 => repeat (first | (with_reducible first | exact HB.out | apply bA | apply bN | apply bD | refine below_set ?_ (IsS65.ge HI0.out)) | exact HB.out)); rintro e w33 ⟨rfl, hi, hb, hk⟩; have n0_ := Aside0.mk (KeepBut.trans Q2 hk (.inl rfl)); have n1_ := Aside0.mk (hb); have n2_ := Aside0.mk (hi); clear HK HB HI0; have HK := n0_; have HB := n1_; have HI0 := n2_; clear n0_ n1_ n2_; (try clear hb); (try clear hb2); (try clear hk); (try clear hi)) | (go_at_call 60; (with_reducible refine (spec_l1Cur_pick.calls g s0_0 t105 t106 3 t107 t108 t109 w0 _ ?side1 ?side2 A13.out).mono ?_); (case side1 => repeat (first | (with_reducible first | exact HI0.out | apply IsS65.alloc | apply IsS65.drewN | apply IsS65.drew | apply IsS65.set_1 | apply IsS65.set_2) | exact HI0.out)); (case side2 => repeat (first | (with_reducible first | exact HB.out | apply bA | apply bN | apply bD | refine below_set ?_ (IsS65.ge HI0.out)) | exact HB.out)); rintro e w34 ⟨rfl, hi, hb, hk⟩; have n0_ := Aside0.mk (KeepBut.trans Q2 hk (.inl rfl)); have n1_ := Aside0.mk (hb); have n2_ := Aside0.mk (hi); clear HK HB HI0; have HK := n0_; have HB := n1_; have HI0 := n2_; clear n0_ n1_ n2_; (try clear hb); (try clear hb2); (try clear hk); (try clear hi))))); go_ret
              exact ⟨by first | rfl | (simp [errW_none, errW_some] <;> rfl) | (simp only [← hji28]; first | rfl | (simp [errW_none, errW_some] <;> rfl)) | (simp [*, errW_none, errW_some] <;> rfl), Q5, Q7, Q2⟩
             ·rw [if_neg c31] at H
              exact Q1
            ·rw [if_neg c30] at H
             exact Q1
           ·rw [if_neg c29] at H
            exact Q1
          ·rw [if_neg c27] at H
           exact Q1
         ·rw [if_neg c26] at H
          exact Q1
        ·rw [if_neg c25] at H
         exact Q1
       ·rw [if_neg c24] at H
        (have c24b0 : (t107 == 1) = false := beq_eq_false_iff_ne.mpr c24); (have c24b1 : (t107 != 1) = true := bne_iff_ne.mpr c24); (by_cases c35 : 0 ≤ t101)
        ·rw [if_pos c35] at H
         (have c35b0 := eq_true c35); (have c35b1 := decide_eq_true c35); clear c35; (by_cases c36 : t101 ≤ (a1.size : Int))
         ·rw [if_pos c36] at H
          (have c36b0 := eq_true c36); (have c36b1 := decide_eq_true c36); clear c36; (obtain ⟨ji37, hji37⟩ : ∃ j_ : Int, (wrap64 (t101 + 1)) = j_ := ⟨_, rfl⟩); (replace H : (if 0 ≤ (ji37) then (if (ji37) ≤ (a1.size : Int) then (if (a1.extract 0 (t101 : Int).toNat).size + (a1.extract ((ji37) : Int).toNat a1.size).size ≤ 9223372036854775807 then (some ((a1.extract 0 (t101 : Int).toNat) ++ (a1.extract ((ji37) : Int).toNat a1.size), t108, t109)) else (none)) else (none)) else (none)) = some (r1, r2, r3) := by first | (rw [hji37] at H; exact H) | (simp only [hji37] at H ⊢; exact H)); ((try rw [hji37] at A7)); ((try rw [hji37] at A8)); ((try rw [hji37] at A13)); (have hji37w : (IntKind.i64.wrap (t101 + 1)) = ji37 := (i64_w _).trans hji37); (by_cases c38 : 0 ≤ (ji37))
          ·rw [if_pos c38] at H
           (have c38b0 := eq_true c38); (have c38b1 := decide_eq_true c38); clear c38; (by_cases c39 : (ji37) ≤ (a1.size : Int))
           ·rw [if_pos c39] at H
            (have c39b0 := eq_true c39); (have c39b1 := decide_eq_true c39); clear c39; (by_cases c40 : (a1.extract 0 (t101 : Int).toNat).size + (a1.extract ((ji37) : Int).toNat a1.size).size ≤ 9223372036854775807)
            ·rw [if_pos c40] at H
             (have c40b0 := eq_true c40); (have c40b1 := decide_eq_true c40); (try have c40n0 := c40b0); (try (push_cast [Int.toNat_natCast, ByteArray.size_append] at c40n0)); (try have c40n1 := c40b1); (try (push_cast [Int.toNat_natCast, ByteArray.size_append] at c40n1)); (try have c40b2 : (9223372036854775807 < (a1.extract 0 (t101 : Int).toNat).size + (a1.extract ((ji37) : Int).toNat a1.size).size) = False := eq_false (Nat.not_lt.2 c40)); (try have c40b3 := c40b2); (try simp only [show (a1.extract 0 (t101 : Int).toNat).size = (t101 : Int).toNat - 0 from Q193, show (a1.extract ((ji37) : Int).toNat a1.size).size = a1.size - ((ji37) : Int).toNat from Q193, ByteArray.size_append] at c40b3); (simp only [Option.some.injEq, Prod.mk.injEq] at H); (obtain ⟨rfl, rfl, rfl⟩ := H); (go_enter Tryd.func36, Tryd.ntmps36); (go_wp2_with (first | (go_at_call 60; (with_reducible refine (spec_l1Cur_pick.calls g s0_0 s0_1 s0_2 (a1.size : Int) t101 t102 t103 w0 _ ?side1 ?side2 A7.out).mono ?_); (case side1 => repeat (first | (with_reducible first | exact HI0.out | apply IsS65.alloc | apply IsS65.drewN | apply IsS65.drew | apply IsS65.set_1 | apply IsS65.set_2) | exact HI0.out)); (case side2 => repeat (first | (with_reducible first | exact HB.out | apply bA | apply bN | apply bD | refine below_set ?_ (IsS65.ge HI0.out)) | exact HB.out)); rintro e w41 ⟨rfl, hi, hb, hk⟩; have n0_ := Aside0.mk (KeepBut.trans Q2 hk (.inl rfl)); have n1_ := Aside0.mk (hb); have n2_ := Aside0.mk (hi); clear HK HB HI0; have HK := n0_; have HB := n1_; have HI0 := n2_; clear n0_ n1_ n2_; (try clear hb); (try clear hb2); (try clear hk); (try clear hi)) | (go_at_call 60; (with_reducible refine (spec_l1Cur_pick.calls g s0_0 t102 t103 (a2.size : Int) t104 t105 t106 w0 _ ?side1 ?side2 A8.out).mono ?_); (case side1 => repeat (first | (with_reducible first | exact HI0.out | apply IsS65.alloc | apply IsS65.drewN | apply IsS65.drew | apply IsS65.set_1 | apply IsS65.set_2) | exact HI0.out)); (case side2 => repeat (first | (with_reducible first | exact HB.out | apply bA | apply bN | apply bD | refine below_set ?_ (IsS65.ge HI0.out)) | exact HB.out)); rintro e w42 ⟨rfl, hi, hb, hk⟩; have n0_ := Aside0.mk (KeepBut.trans Q2 hk (.inl rfl)); have n1_ := Aside0.mk (hb); have n2_ := Aside0.mk (hi); clear HK HB HI0; have HK := n0_; have HB := n1_; have HI0 := n2_; clear n0_ n1_ n2_; (try clear hb); (try clear hb2); (try clear hk); (try clear hi)) | (go_at_call 60; (with_reducible refine (spec_l1Cur_pick.calls g s0_0 t105 t106 3 t107 t108 t109 w0 _ ?side1 ?side2 A13.out).mono ?_); (case side1 => repeat (first | (with_reducible first | exact HI0.out | apply IsS65.alloc | apply IsS65.drewN | apply IsS65.drew | apply IsS65.set_1 | apply IsS65.set_2) | exact HI0.out)); (case side2 => repeat (first | (with_reducible first | exact HB.out | apply bA | apply bN | apply bD | refine below_set ?_ (IsS65.ge HI0.out)) | exact HB.out)); rintro e w43 ⟨rfl, hi, hb, hk⟩; have n0_ := Aside0.mk (KeepBut.trans Q2 hk (.inl rfl)); have n1_ := Aside0.mk (hb); have n2_ := Aside0.mk (hi); clear HK HB HI0; have HK := n0_; have HB := n1_; have HI0 := n2_; clear n0_ n1_ n2_; (try clear hb); (try clear hb2); (try clear hk); (try clear hi))))
             (repeat (go_quiet (first | (go_at_call 60; (with_reducible refine (spec_l1Cur_pick.calls g s0_0 s0_1 s0_2 (a1.size : Int) t101 t102 t103 w0 _ ?side1 ?side2 A7.out).mono ?_); (case side1 => repeat (first | (with_reducible first | exact HI0.out | apply IsS65.alloc | apply IsS65.drewN | apply IsS65.drew | apply IsS65.set_1 | apply IsS65.set_2) | exact HI0.out)); (case side2 => repeat (first | (with_reducible first | exact HB.out | apply bA | apply bN | apply bD | refine below_set ?_ (IsS65.ge HI0.out)) | exact HB.out)); rintro e w41 ⟨rfl, hi, hb, hk⟩; have n0_ := Aside0.mk (KeepBut.trans Q2 hk (.inl rfl)); have n1_ := Aside0.mk (hb); have n2_ := Aside0.mk (hi); clear HK HB HI0; have HK := n0_; have HB := n1_; have HI0 := n2_; clear n0_ n1_ n2_; (try clear hb); (try clear hb2); (try clear hk); (try clear hi)) | (go_at_call 60; (with_reducible refine (spec_l1Cur_pick.calls g s0_0 t102 t103 (a2.size : Int) t104 t105 t106 w0 _ ?side1 ?side2 A8.out).mono ?_); (case side1 => repeat (first | (with_reducible first | exact HI0.out | apply IsS65.alloc | apply IsS65.drewN | apply IsS65.drew | apply IsS65.set_1 | apply IsS65.set_2) | exact HI0.out)); (case side2 => repeat (first | (with_reducible first | exact HB.out | apply bA | apply bN | apply bD | refine below_set ?_ (IsS65.ge HI0.out)) | exact HB.out)); rintro e w42 ⟨rfl, hi, hb, hk⟩; have n0_ := Aside0.mk (KeepBut.trans Q2 hk (.inl rfl)); have n1_ := Aside0.mk (hb); have n2_ := Aside0.mk (hi); clear HK HB HI0; have HK := n0_; have HB := n1_; have HI0 := n2_; clear n0_ n1_ n2_; (try clear hb); (try clear hb2); (try clear hk); (try clear hi)) | (go_at_call 60; (with_reducible refine (spec_l1Cur_pick.calls g s0_0 t105 t106 3 t107 t108 t109 w0 _ ?side1 ?side2 A13.out).mono ?_); (case side1 => repeat (first | (with_reducible first | exact HI0.out | apply IsS65.alloc | apply IsS65.drewN | apply IsS65.drew | apply IsS65.set_1 | apply IsS65.set_2) | exact HI0.out)); (case side2 => repeat (first | (with_reducible first | exact HB.out | apply bA | apply bN | apply bD | refine below_set ?_ (IsS65.ge HI0.out)) | exact HB.out)); rintro e w43 ⟨rfl, hi, hb, hk⟩; have n0_ := Aside0.mk (KeepBut.trans Q2 hk (.inl rfl)); have n1_ := Aside0.mk (hb); have n2_ := Aside0.mk (hi); clear HK HB HI0; have HK := n0_; have HB := n1_; have HI0 := n2_; clear n0_ n1_ n2_; (try clear hb); (try clear hb2); (try clear hk); (try clear hi))); try go_wp2_with (first | (go_at_call 60; (with_reducible refine (spec_l1Cur_pick.calls g s0_0 s0_1 s0_2 (a1.size : Int) t101 t102 t103 w0 _ ?side1 ?side2 A7.out).mono ?_); (case side1 => repeat (first | (with_reducible first | exact HI0.out | apply IsS65.alloc | apply IsS65.drewN | apply IsS65.drew | apply IsS65.set_1 | apply IsS65.set_2) | exact HI0.out)); (case side2 => repeat (first | (with_reducible first | exact HB.out | apply bA | apply bN | apply bD | refine below_set ?_ (IsS65.ge HI0.out)) | exact HB.out)); rintro e w41 ⟨rfl, hi, hb, hk⟩; have n0_ := Aside0.mk (KeepBut.trans Q2 hk (.inl rfl)); have n1_ := Aside0.mk (hb); have n2_ := Aside0.mk (hi); clear HK HB HI0; have HK := n0_; have HB := n1_; have HI0 := n2_; clear n0_ n1_ n2_; (try clear hb); (try clear hb2); (try clear hk); (try clear hi)) | (go_at_call 60; (with_reducible refine (spec_l1Cur_pick.calls g s0_0 t102 t103 (a2.size : Int) t104 t105 t106 w0 _ ?side1 ?side2 A8.out).mono ?_); (case side1 => repeat (first | (with_reducible first | exact HI0.out | apply IsS65.alloc | apply IsS65.drewN | apply IsS65.drew | apply IsS65.set_1 | apply IsS65.set_2) | exact HI0.out)); (case side2 => repeat (first | (with_reducible first | exact HB.out | apply bA | apply bN | apply bD | refine below_set ?_ (IsS65.ge HI0.out)) | exact HB.out)); rintro e w42 ⟨rfl, hi, hb, hk⟩; have n0_ := Aside0.mk (KeepBut.trans Q2 hk (.inl rfl)); have n1_ := Aside0.mk (hb); have n2_ := Aside0.mk (hi); clear HK HB HI0; have HK := n0_; have HB := n1_; have HI0 := n2_; clear n0_ n1_ n2_; (try clear hb); (try clear hb2); (try clear hk); (try clear hi)) | (go_at_call 60; (with_reducible refine (spec_l1Cur_pick.calls g s0_0 t105 t106 3 t107 t108 t109 w0 _ ?side1 ?side2 A13.out).mono ?_); (case side1 => repeat (first | (with_reducible first | exact HI0.out | apply IsS65.alloc | apply IsS65.drewN | apply IsS65.drew | apply IsS65.set_1 | apply IsS65.set_2) | exact HI0.out)); (case side2 => repeat (first | (with_reducible first | exact HB.out | apply bA | apply bN | apply bD | refine below_set ?_ (IsS65.ge HI0.out)) | exact HB.out)); rintro e w43 ⟨rfl, hi, hb, hk⟩; have n0_ := Aside0.mk (KeepBut.trans Q2 hk (.inl rfl)); have n1_ := Aside0.mk (hb); have n2_ := Aside0.mk (hi); clear HK HB HI0; have HK := n0_; have HB := n1_; have HI0 := n2_; clear n0_ n1_ n2_; (try clear hb); (try clear hb2); (try clear hk); (try clear hi))))); go_ret
             exact ⟨by first | rfl | (simp [errW_none, errW_some] <;> rfl) | (simp only [← hji37]; first | rfl | (simp [errW_none, errW_some] <;> rfl)) | (simp [*, errW_none, errW_some] <;> rfl), Q5, Q7, Q2⟩
            ·rw [if_neg c40] at H
             exact Q1
           ·rw [if_neg c39] at H
            exact Q1
          ·rw [if_neg c38] at H
           exact Q1
         ·rw [if_neg c36] at H
          exact Q1
        ·rw [if_neg c35] at H
         exact Q1
     ·rw [if_neg c12] at H
      exact Q1
    ·rw [if_neg c11] at H
     exact Q1
   ·rw [if_neg c10] at H
    exact Q1
  ·rw [if_neg c9] at H
   exact Q1
end Go.Proofs.YtiaiohoadefgjaaDoor.X
set_option linter.unusedVariables false
set_option linter.unusedSimpArgs false
namespace Go.Proofs.YtiaiohoadefgjaaDoor.X
open Go.RowKit Go.Proofs.YtiaiohoadefgjaaDoorW.PrintWords Go.Proofs.YtiaiohoadefgjaaDoor.E
theorem one_tot {l : List Int} {a : Int} (s n : Int) (h : Cu l a) (hb : a ≤ 999990) : ∃ v a' s', spec_l1Cur_one.f l a s n = some (v, a', s') ∧ Cu l a' ∧ (a ≤ a' ∧ a' ≤ a + 2) := by
 obtain ⟨v, a', s', e, h0, h1, h2, h3⟩ := pick_tot s n h hb
 unfold spec_l1Cur_one.f
 rw [e]
 exact ⟨_, _, _, rfl, h2, h3⟩
theorem of_tot {l : List Int} {a : Int} (s : Int) (ts : List ByteArray) (ht : 1 ≤ ts.length) (h : Cu l a) (hb : a ≤ 999990) : ∃ v a' s', spec_l1Cur_of.f l a s ts = some (v, a', s') ∧ v ∈ ts ∧ Cu l a' ∧ (a ≤ a' ∧ a' ≤ a + 2) := by
 obtain ⟨v, a', s', e, h0, h1, h2⟩ := pick_in s (ts.length : Int) (by omega) h hb
 unfold spec_l1Cur_of.f
 rw [e, Option.bind_some, if_pos h0.1, if_pos h0.2]
 refine ⟨_, _, _, rfl, ?_, h1, h2⟩
 dsimp only
 unfold rdOf
 rw [getD_in (by omega)]
 exact List.getElem_mem _
end Go.Proofs.YtiaiohoadefgjaaDoor.X
set_option linter.unusedVariables false
set_option linter.unusedSimpArgs false
namespace Go.Proofs.YtiaiohoadefgjaaDoor.X
open Go.RowKit Go.Proofs.YtiaiohoadefgjaaDoorW.PrintWords Go.Proofs.YtiaiohoadefgjaaDoor.E
theorem l1In_eq (a l h : Int) : spec_l1In.f a l h = some (decide (l ≤ a ∧ a ≤ h)) := by
 unfold spec_l1In.f
 by_cases h1 : a ≥ l
 ·rw [if_pos h1]; congr 1; simp [h1]
 ·rw [if_neg h1]; congr 1; symm; simp; intro h2; omega
theorem within_eq (a l h : Int) : impl_within.f a l h = some (decide (l ≤ a ∧ a ≤ h)) := by
 unfold impl_within.f
 by_cases h1 : a ≥ l
 ·rw [if_pos h1]; congr 1; simp [h1]
 ·rw [if_neg h1]; congr 1; symm; simp; intro h2; omega
def nameAt (s : ByteArray) (i : Nat) : Bool := decide (97 ≤ bt s i ∧ bt s i ≤ 122) || (decide (0 < i) && decide (48 ≤ bt s i ∧ bt s i ≤ 57))
def nameB (s : ByteArray) : Bool := decide (1 ≤ (s.size : Int) ∧ (s.size : Int) ≤ 8) && (List.range s.size).all (nameAt s)
theorem isName_ev (s : ByteArray) (hs : s.size ≤ 9223372036854775807) : Ev (fun k => impl_isName.f k s) (nameB s) := by
 have h := ev_all0 (L := fun k i => impl_isName.l0 k s (s.size : Int) i) s.size (nameAt s) false (decide (1 ≤ (s.size : Int) ∧ (s.size : Int) ≤ 8)) (fun _ => Ev.step (fun k => rfl) (ev_neg (by omega) ?_)) ?h1 ?h2
 case refine_1 => simp only [within_eq]; exact ev_now rfl
 case h1 =>
  intro i hi _ hc y hy
  simp only [nameAt, Bool.or_eq_true, Bool.and_eq_true, decide_eq_true_eq] at hc
  refine Ev.step (fun k => rfl) (ev_pos (by omega) (ev_pos (by omega) (ev_pos (by omega) ?_)))
  rw [wrap_succ hi hs]
  repeat' (first | exact hy | (exfalso; omega) | (refine ev_ite (fun _ => ?_) (fun _ => ?_)))
 case h2 =>
  intro i hi _ hc
  simp only [nameAt, Bool.or_eq_false_iff, Bool.and_eq_false_iff, decide_eq_false_iff_not] at hc
  refine Ev.step (fun k => rfl) (ev_pos (by omega) (ev_pos (by omega) (ev_pos (by omega) ?_)))
  rw [wrap_succ hi hs]
  repeat' (first | exact ev_now rfl | (exfalso; omega) | (refine ev_ite (fun _ => ?_) (fun _ => ?_)))
 refine ev_cast h ?_
 unfold nameB
 cases (List.range s.size).all (nameAt s) <;> simp
theorem l7Name_ev (s : ByteArray) (hs : s.size ≤ 9223372036854775807) : Ev (fun k => spec_l7Name.f k s) (nameB s) := by
 unfold spec_l7Name.f
 simp only [l1In_eq]
 have stop : ∀ b, b = false → Ev (fun k => spec_l7Name.j0 k s true) b := fun b hb => hb ▸ Ev.step (fun k => rfl) (ev_now rfl)
 refine ev_ite (fun h1 => ?_) (fun h1 => stop _ ?_)
 case refine_2 => unfold nameB; simp only [Bool.and_eq_false_iff]; left; simpa using h1
 have h1' : 1 ≤ (s.size : Int) ∧ (s.size : Int) ≤ 8 := by simpa using h1
 have h0 : ∀ b : Bool, (97 ≤ bt s 0 ∧ bt s 0 ≤ 122 → b = (List.range s.size).all (nameAt s)) → (¬ (97 ≤ bt s 0 ∧ bt s 0 ≤ 122) → b = false) → b = nameB s := by
  intro b hy hn
  unfold nameB
  rw [decide_eq_true h1', Bool.true_and]
  by_cases c : 97 ≤ bt s 0 ∧ bt s 0 ≤ 122
  ·exact hy c
  ·rw [hn c]
   symm
   rw [Bool.eq_false_iff]
   intro hall
   have := all_range.1 hall 0 (by omega)
   simp only [nameAt, Nat.lt_irrefl, decide_false, Bool.false_and, Bool.or_false, decide_eq_true_eq] at this
   exact c this
 refine ev_pos (by omega) ?_
 have loop : 97 ≤ bt s 0 ∧ bt s 0 ≤ 122 → Ev (fun k => spec_l7Name.l0 k s 0) ((List.range s.size).all (nameAt s)) := by
  intro hf
  have h := ev_all0 (L := fun k i => spec_l7Name.l0 k s i) s.size (nameAt s) false true (fun _ => Ev.step (fun k => rfl) (ev_neg (by omega) (ev_now rfl))) ?h1 ?h2
  case h1 =>
   intro i hi _ hc y hy
   simp only [nameAt, Bool.or_eq_true, Bool.and_eq_true, decide_eq_true_eq] at hc
   refine Ev.step (fun k => rfl) (ev_pos (by omega) (ev_pos (by omega) ?_))
   rw [wrap_succ hi hs]
   repeat' (first | exact hy | (exfalso; omega) | (refine ev_ite (fun _ => ?_) (fun _ => ?_)))
  case h2 =>
   intro i hi _ hc
   simp only [nameAt, Bool.or_eq_false_iff, Bool.and_eq_false_iff, decide_eq_false_iff_not] at hc
   have hi0 : 0 < i := by
    rcases Nat.eq_zero_or_pos i with e | e
    ·subst e; exact absurd hf hc.1
    ·exact e
   refine Ev.step (fun k => rfl) (ev_pos (by omega) (ev_pos (by omega) ?_))
   rw [wrap_succ hi hs]
   repeat' (first | exact ev_now rfl | (exfalso; omega) | (refine ev_ite (fun _ => ?_) (fun _ => ?_)))
  refine ev_cast h ?_
  cases (List.range s.size).all (nameAt s) <;> rfl
 refine ev_ite (fun c => stop _ (h0 false (fun h => by exfalso; omega) (fun _ => rfl)).symm) (fun c => ?_)
 by_cases c2 : bt s 0 > 122
 ·rw [decide_eq_true c2]
  exact stop _ (h0 false (fun h => by exfalso; omega) (fun _ => rfl)).symm
 ·rw [decide_eq_false c2]
  exact Ev.step (fun k => rfl) (ev_cast (loop ⟨by omega, by omega⟩) (h0 _ (fun _ => rfl) (fun h => absurd (And.intro (show 97 ≤ bt s 0 by omega) (show bt s 0 ≤ 122 by omega)) h)))
def textAt (s : ByteArray) (i : Nat) : Bool := decide (32 ≤ bt s i ∧ bt s i ≤ 126)
def textB (s : ByteArray) : Bool := (List.range s.size).all (textAt s) && decide ((s.size : Int) ≤ 40)
theorem isText_ev (s : ByteArray) (hs : s.size ≤ 9223372036854775807) : Ev (fun k => impl_isText.f k s) (textB s) := by
 have h := ev_all0 (L := fun k i => impl_isText.l0 k s (s.size : Int) i) s.size (textAt s) false (decide ((s.size : Int) ≤ 40)) (fun _ => Ev.step (fun k => rfl) (ev_neg (by omega) (ev_now rfl))) ?h1 ?h2
 case h1 =>
  intro i hi _ hc y hy
  simp only [textAt, decide_eq_true_eq] at hc
  refine Ev.step (fun k => rfl) (ev_pos (by omega) (ev_pos (by omega) (ev_pos (by omega) ?_)))
  rw [wrap_succ hi hs]
  exact ev_neg (by omega) (ev_neg (by omega) hy)
 case h2 =>
  intro i hi _ hc
  simp only [textAt, decide_eq_false_iff_not] at hc
  refine Ev.step (fun k => rfl) (ev_pos (by omega) (ev_pos (by omega) (ev_pos (by omega) ?_)))
  refine ev_ite (fun _ => ev_now rfl) (fun _ => ev_ite (fun _ => ev_now rfl) (fun _ => ?_))
  exfalso; omega
 refine ev_cast h ?_
 unfold textB
 cases (List.range s.size).all (textAt s) <;> simp
theorem l21Text_ev (s : ByteArray) (hs : s.size ≤ 9223372036854775807) : Ev (fun k => spec_l21Text.f k s) (textB s) := by
 have h := ev_all0 (L := fun k i => spec_l21Text.l0 k s i) (min s.size 41) (textAt s) false (decide ((s.size : Int) ≤ 40)) ?h0 ?h1 ?h2
 case h0 =>
  intro _
  by_cases c : s.size ≤ 40
  ·rw [Nat.min_eq_left (by omega)]
   exact Ev.step (fun k => rfl) (ev_neg (by omega) (Ev.step (fun k => rfl) (ev_now rfl)))
  ·rw [Nat.min_eq_right (by omega)]
   refine Ev.step (fun k => rfl) ?_
   show Ev (fun k => if ((41 : Nat) : Int) < (s.size : Int) then spec_l21Text.j1 k s ((41 : Nat) : Int) (decide (((41 : Nat) : Int) ≤ 40)) else spec_l21Text.j1 k s ((41 : Nat) : Int) false) _
   rw [decide_eq_false (show ¬ (((41 : Nat) : Int) ≤ 40) by omega)]
   exact ev_ite (fun _ => Ev.step (fun k => rfl) (ev_now rfl)) (fun _ => Ev.step (fun k => rfl) (ev_now rfl))
 case h1 =>
  intro i hi _ hc y hy
  simp only [textAt, decide_eq_true_eq] at hc
  have hi' : i < s.size := by omega
  refine Ev.step (fun k => rfl) (ev_pos (by omega) ?_)
  rw [decide_eq_true (show (i : Int) ≤ 40 by omega)]
  refine Ev.step (fun k => rfl) ?_
  show Ev (fun k => if 0 ≤ (i : Int) then (if (i : Int) < (s.size : Int) then (if (bt s i) < 32 then (some false) else (if (bt s i) > 126 then (some false) else (spec_l21Text.l0 k s (wrap64 ((i : Int) + 1))))) else none) else none) y
  rw [wrap_succ hi' hs]
  exact ev_pos (by omega) (ev_pos (by omega) (ev_neg (by omega) (ev_neg (by omega) hy)))
 case h2 =>
  intro i hi _ hc
  simp only [textAt, decide_eq_false_iff_not] at hc
  have hi' : i < s.size := by omega
  refine Ev.step (fun k => rfl) (ev_pos (by omega) ?_)
  rw [decide_eq_true (show (i : Int) ≤ 40 by omega)]
  refine Ev.step (fun k => rfl) ?_
  show Ev (fun k => if 0 ≤ (i : Int) then (if (i : Int) < (s.size : Int) then (if (bt s i) < 32 then (some false) else (if (bt s i) > 126 then (some false) else (spec_l21Text.l0 k s (wrap64 ((i : Int) + 1))))) else none) else none) _
  refine ev_pos (by omega) (ev_pos (by omega) (ev_ite (fun _ => ev_now rfl) (fun _ => ev_ite (fun _ => ev_now rfl) (fun _ => ?_))))
  exfalso; omega
 refine ev_cast h ?_
 unfold textB
 by_cases c : s.size ≤ 40
 ·rw [Nat.min_eq_left (by omega)]
  cases (List.range s.size).all (textAt s) <;> simp
 ·rw [decide_eq_false (show ¬ ((s.size : Int) ≤ 40) by omega)]
  simp
end Go.Proofs.YtiaiohoadefgjaaDoor.X
namespace Go.Proofs.YtiaiohoadefgjaaDoor.X
open Go.RowKit Go.Proofs.YtiaiohoadefgjaaDoorW.PrintWords Go.Proofs.YtiaiohoadefgjaaDoorW.PrintLast Go.Proofs.YtiaiohoadefgjaaDoorW.PrintMore
attribute [local go_sem] max2_int min2_int max_two min_two max_three min_three max_four min_four
set_option linter.unusedVariables false
set_option linter.unusedSimpArgs false
attribute [-simp] ByteArray.size_append ByteArray.size_extract
attribute [-go_sem] ByteArray.size_append'
/-! ### spec_IsValidForm: function 11 -/
def spec_IsValidForm.f (k : Nat) (l0 : List (S54)) : Option (Bool) := (spec_l23Good.f k l0).bind fun t101 => (some t101)
set_option maxHeartbeats 8000000 in
set_option maxRecDepth 100000 in
theorem spec_IsValidForm.calls (k : Nat) (A0 : Option Addr) (c0 : Nat) (l0 : List (S54)) (r : Bool) (w : World) (hr0 : Kd.C k54 w A0 l0.length l0) (hc0 : l0.length ≤ c0) (h : spec_IsValidForm.f k l0 = some r) :
  Calls Tryd.prog 11 #[.slice A0 l0.length c0] w fun e w' => e = .returned (.bool r) ∧ Below w.heap.size w w' := by
 (have HR0 := Aside0.mk hr0); (have HC0 := Aside0.mk hc0); clear hr0 hc0; (have HB := Aside0.mk (Below.refl w.heap.size w)); (unfold spec_IsValidForm.f at h); (have H := h); clear h; (replace H := obS H); (obtain ⟨t101, A2, H⟩ := H); (obtain rfl := Option.some.inj H); (go_enter Tryd.func11, Tryd.ntmps11); (go_wp2_with (first | ((with_reducible refine gate_callee (f := 31) rfl ?_); refine gL (some 4) Tryd.func31 #[.slice A0 l0.length c0] ?_; (with_reducible refine (spec_l23Good.calls k _ _ l0 t101 _ ?side1 ?side2 A2.out).mono ?_); (case side1 => exact cI HR0.out); (case side2 => exact HC0.out); rintro e w3 ⟨rfl, hb⟩; refine ⟨_, rfl, ?_⟩; have n0_ := Aside0.mk (sI hb HB); clear HB; have HB := n0_; clear n0_; (try clear hb); (try clear hb2); (try clear hk); (try clear hi)))); go_ret; (exact Q100)
end Go.Proofs.YtiaiohoadefgjaaDoor.X
set_option linter.unusedVariables false
set_option linter.unusedSimpArgs false
namespace Go.Proofs.YtiaiohoadefgjaaDoor.X
open Go.RowKit Go.Proofs.YtiaiohoadefgjaaDoorW.PrintWords Go.Proofs.YtiaiohoadefgjaaDoor.E
abbrev Field := S54
abbrev zF : Field := z54
def fine (f : Field) : Prop := f.f0.size ≤ 9223372036854775807 ∧ f.f4.length ≤ 9223372036854775807 ∧ (∀ s ∈ f.f4, s.size ≤ 9223372036854775807) ∧ f.f6.size ≤ 9223372036854775807
abbrev fidx (form : List Field) (n : ByteArray) : Int := idxG (fun x : Field => x.f0.toList == n.toList) 0 form
theorem l23Find_ev (form : List Field) (n : ByteArray) (hl : form.length ≤ 9223372036854775807) : Ev (fun k => spec_l23Find.f k form n) (fidx form n) := by
 have h := ev_walk (L := fun k i => spec_l23Find.l0 k form n i) (G := fun i r => idxG (fun x : Field => x.f0.toList == n.toList) i r) form (Ev.step (fun k => rfl) (ev_neg (by omega) (ev_now rfl))) ?step
 case step =>
  intro i x r hi hd hx hk
  refine Ev.step (fun k => rfl) (ev_pos (by omega) (ev_pos (by omega) ?_))
  simp only [rd_T54, Int.toNat_natCast, hx]
  by_cases c : x.f0.toList = n.toList
  ·exact ev_pos c (ev_now (by simp [idxG, c]))
  ·refine ev_neg c ?_
   rw [wrap_succ hi hl]
   exact ev_cast hk (by simp [idxG, c])
 exact h
theorem fieldOf_eq (form : List Field) (n : ByteArray) : impl_fieldOf.f form n = some (fidx form n) := rfl
def choiceAt (l : List ByteArray) (i : Nat) : Bool := nameB (l.getD i ByteArray.empty) && (List.range i).all (fun k => !((l.getD k ByteArray.empty).toList == (l.getD i ByteArray.empty).toList))
def choices (l : List ByteArray) : Bool := (List.range l.length).all (choiceAt l)
theorem l23Names_ev (l : List ByteArray) (hl : l.length ≤ 9223372036854775807) (hs : ∀ s ∈ l, s.size ≤ 9223372036854775807) : Ev (fun k => spec_l23Names.f k l) (choices l) := by
 have inner : ∀ i, i < l.length → ∀ y, ((List.range i).all (fun k => !((l.getD k ByteArray.empty).toList == (l.getD i ByteArray.empty).toList)) = true → Ev (fun k => spec_l23Names.l0 k l ((i + 1 : Nat) : Int)) y) →
   Ev (fun k => spec_l23Names.l1 k l i 0) (if (List.range i).all (fun k => !((l.getD k ByteArray.empty).toList == (l.getD i ByteArray.empty).toList)) = true then y else false) := by
  intro i hi y hy
  refine ev_all0 (L := fun k j => spec_l23Names.l1 k l i j) i _ false y ?_ ?_ ?_
  ·intro hC
   refine Ev.step (fun k => rfl) (ev_neg (by omega) ?_)
   rw [wrap_succ hi hl]
   exact hy (all_range.2 hC)
  ·intro m hm _ hc z hz
   refine Ev.step (fun k => rfl) (ev_pos (by omega) (ev_pos (by omega) (ev_pos (by omega) (ev_pos (by omega) (ev_pos (by omega) (ev_neg ?_ ?_))))))
   ·simp only [rdOf, Int.toNat_natCast]
    simpa using hc
   ·rw [wrap_succ hm (by omega)]; exact hz
  ·intro m hm _ hc
   refine Ev.step (fun k => rfl) (ev_pos (by omega) (ev_pos (by omega) (ev_pos (by omega) (ev_pos (by omega) (ev_pos (by omega) (ev_pos ?_ (ev_now rfl)))))))
   simp only [rdOf, Int.toNat_natCast]
   simpa using hc
 have h := ev_all0 (L := fun k i => spec_l23Names.l0 k l i) l.length (choiceAt l) false true (fun _ => Ev.step (fun k => rfl) (ev_neg (by omega) (ev_now rfl))) ?h1 ?h2
 case h1 =>
  intro i hi _ hc y hy
  simp only [choiceAt, Bool.and_eq_true] at hc
  refine Ev.step (fun k => rfl) (ev_pos (by omega) (ev_pos (by omega) ?_))
  simp only [rdOf, Int.toNat_natCast]
  refine Ev.bind (l7Name_ev _ (by rw [getD_in hi]; exact hs _ (List.getElem_mem hi))) (ev_pos hc.1 ?_)
  have := inner i hi y (fun _ => hy)
  rw [if_pos hc.2] at this
  exact this
 case h2 =>
  intro i hi _ hc
  refine Ev.step (fun k => rfl) (ev_pos (by omega) (ev_pos (by omega) ?_))
  simp only [rdOf, Int.toNat_natCast]
  refine Ev.bind (l7Name_ev _ (by rw [getD_in hi]; exact hs _ (List.getElem_mem hi))) (ev_ite (fun h1 => ?_) (fun _ => ev_now rfl))
  have hn : ¬ (List.range i).all (fun k => !((l.getD k ByteArray.empty).toList == (l.getD i ByteArray.empty).toList)) = true := by
   intro h2
   simp only [choiceAt, h1, h2] at hc
   cases hc
  have := inner i hi false (fun h => absurd h hn)
  rw [if_neg hn] at this
  exact this
 refine ev_cast h ?_
 unfold choices
 cases (List.range l.length).all (choiceAt l) <;> rfl
theorem slicesIndexStr_ev (l : List ByteArray) (n : ByteArray) (hl : l.length ≤ 9223372036854775807) : Ev (fun k => slices_Index_string_string.f k l n) (idxG (fun x : ByteArray => x.toList == n.toList) 0 l) := by
 have h := ev_walk (L := fun k i => slices_Index_string_string.l0 k l n (l.length : Int) i) (G := fun i r => idxG (fun x : ByteArray => x.toList == n.toList) i r) l (Ev.step (fun k => rfl) (ev_neg (by omega) (ev_now rfl))) ?step
 case step =>
  intro i x r hi hd hx hk
  refine Ev.step (fun k => rfl) (ev_pos (by omega) (ev_pos (by omega) (ev_pos (by omega) ?_)))
  simp only [rdOf, Int.toNat_natCast, hx]
  by_cases c : n.toList = x.toList
  ·exact ev_pos c (ev_now (by simp [idxG, c]))
  ·refine ev_neg c ?_
   rw [wrap_succ hi hl]
   have c' : ¬ x.toList = n.toList := fun h => c h.symm
   exact ev_cast hk (by simp [idxG, c'])
 exact h
theorem slicesContainsStr_ev (l : List ByteArray) (n : ByteArray) (hl : l.length ≤ 9223372036854775807) : Ev (fun k => slices_Contains_string_string.f k l n) (l.any (fun x => x.toList == n.toList)) := by
 unfold slices_Contains_string_string.f
 refine Ev.bind (slicesIndexStr_ev l n hl) (ev_now ?_)
 exact idxG_nonneg (fun x : ByteArray => x.toList == n.toList) l 0
theorem any_take (l : List ByteArray) (i : Nat) (hi : i < l.length) (n : ByteArray) : (l.take i).any (fun x => x.toList == n.toList) = !(List.range i).all (fun k => !((l.getD k ByteArray.empty).toList == n.toList)) := by
 rw [Bool.eq_iff_iff, Bool.not_eq_true', List.any_eq_true, Bool.eq_false_iff, ne_eq, all_range]
 constructor
 ·rintro ⟨x, hx, hp⟩ h
  obtain ⟨q, hq, rfl⟩ := List.getElem_of_mem hx
  have hq' : q < i := by simp at hq; omega
  have := h q hq'
  rw [getD_in (by omega)] at this
  rw [List.getElem_take] at hp
  rw [hp] at this; cases this
 ·intro h
  refine Classical.byContradiction (fun hc => h (fun k hk => ?_))
  rw [getD_in (by omega)]
  cases hq : (l[k].toList == n.toList) with
  | false => rfl
  | true =>
   refine absurd ⟨l[k], ?_, hq⟩ hc
   rw [List.mem_take_iff_getElem]
   exact ⟨k, by omega, rfl⟩
def kindOk (f : Field) : Bool :=
 if f.f1 = 1 then decide (-999999 ≤ f.f2 ∧ f.f2 ≤ f.f3 ∧ f.f3 ≤ 999999) && (f.f4.length == 0)
 else if f.f1 = 2 then decide (0 ≤ f.f2 ∧ f.f2 ≤ f.f3 ∧ f.f3 ≤ 40) && (f.f4.length == 0)
 else if f.f1 = 3 then decide (f.f2 = 0 ∧ f.f3 = 0) && decide (1 ≤ (f.f4.length : Int) ∧ (f.f4.length : Int) ≤ 6) && choices f.f4
 else if f.f1 = 4 then decide (f.f2 = 0 ∧ f.f3 = 0) && (f.f4.length == 0) else false
def ifOk (form : List Field) (i : Nat) (n : ByteArray) : Bool := (n.toList == []) || (decide (0 ≤ fidx form n ∧ fidx form n < (i : Int)) && ((form.getD (fidx form n).toNat zF).f1 == 4))
def fieldB (form : List Field) (i : Nat) : Bool :=
 nameB (form.getD i zF).f0 && decide (fidx form (form.getD i zF).f0 = (i : Int)) && decide (1 ≤ (form.getD i zF).f1 ∧ (form.getD i zF).f1 ≤ 4) && ifOk form i (form.getD i zF).f6 && kindOk (form.getD i zF)
theorem specField_ev (form : List Field) (i : Nat) (hi : i < form.length) (hl : form.length ≤ 9223372036854775807) (hf : fine (form.getD i zF)) : Ev (fun k => spec_l23Field.f k form i) (fieldB form i) := by
 unfold spec_l23Field.f
 refine ev_pos (by omega) (ev_pos (by omega) ?_)
 simp only [rd_T54, Int.toNat_natCast, l1In_eq]
 generalize hF : form.getD i z54 = F at *
 have hFB : fieldB form i = (nameB F.f0 && decide (fidx form F.f0 = (i : Int)) && decide (1 ≤ F.f1 ∧ F.f1 ≤ 4) && ifOk form i F.f6 && kindOk F) := by unfold fieldB; rw [show form.getD i zF = F from hF]
 rw [hFB]
 obtain ⟨g0, g4, g4s, g6⟩ := id hf
 have stop : ∀ b, b = false → Ev (fun k => spec_l23Field.j0 k form i true F.f0 F.f1 F.f2 F.f3 F.f4 F.f5 F.f6) b := fun b hb => hb ▸ Ev.step (fun k => rfl) (ev_now rfl)
 refine Ev.bind (l7Name_ev F.f0 g0) (ev_ite (fun h1 => ?_) (fun h1 => stop _ (by simp [h1])))
 refine Ev.bind (l23Find_ev form F.f0 hl) (ev_ite (fun h2 => ?_) (fun h2 => stop _ (by simp [h2])))
 by_cases h3 : 1 ≤ F.f1 ∧ F.f1 ≤ 4
 case neg =>
  show Ev (fun k => spec_l23Field.j0 k form i (!decide (1 ≤ F.f1 ∧ F.f1 ≤ 4)) F.f0 F.f1 F.f2 F.f3 F.f4 F.f5 F.f6) _
  rw [decide_eq_false h3]
  exact stop _ (by simp)
 show Ev (fun k => spec_l23Field.j0 k form i (!decide (1 ≤ F.f1 ∧ F.f1 ≤ 4)) F.f0 F.f1 F.f2 F.f3 F.f4 F.f5 F.f6) _
 rw [decide_eq_true h3]
 have tail : Ev (fun k => spec_l23Field.j1 k F.f0 F.f1 F.f2 F.f3 F.f4 F.f5 F.f6) (kindOk F) := by
  refine Ev.step (fun k => rfl) ?_
  unfold kindOk
  simp only [spec_l23Field.j1, l1In_eq]
  have e0 : ((F.f4.length : Int) == 0) = (F.f4.length == 0) := by
   rw [Bool.eq_iff_iff, beq_iff_eq, beq_iff_eq]; omega
  refine ev_ite (fun k1 => ?_) (fun k1 => ev_ite (fun k2 => ?_) (fun k2 => ev_ite (fun k3 => ?_) (fun k3 => ?_)))
  ·rw [if_pos k1]
   refine ev_ite (fun h => ev_ite (fun h' => ev_now ?_) (fun h' => ev_now ?_)) (fun h => ev_now ?_)
   ·rw [decide_eq_true_eq] at h; rw [decide_eq_true (show -999999 ≤ F.f2 ∧ F.f2 ≤ F.f3 ∧ F.f3 ≤ 999999 by omega), Bool.true_and, e0]
   ·rw [decide_eq_false (show ¬ (-999999 ≤ F.f2 ∧ F.f2 ≤ F.f3 ∧ F.f3 ≤ 999999) by omega), Bool.false_and]
   ·rw [decide_eq_true_eq] at h; rw [decide_eq_false (show ¬ (-999999 ≤ F.f2 ∧ F.f2 ≤ F.f3 ∧ F.f3 ≤ 999999) by omega), Bool.false_and]
  ·rw [if_neg k1, if_pos k2]
   refine ev_ite (fun h => ev_ite (fun h' => ev_now ?_) (fun h' => ev_now ?_)) (fun h => ev_now ?_)
   ·rw [decide_eq_true_eq] at h; rw [decide_eq_true (show 0 ≤ F.f2 ∧ F.f2 ≤ F.f3 ∧ F.f3 ≤ 40 by omega), Bool.true_and, e0]
   ·rw [decide_eq_false (show ¬ (0 ≤ F.f2 ∧ F.f2 ≤ F.f3 ∧ F.f3 ≤ 40) by omega), Bool.false_and]
   ·rw [decide_eq_true_eq] at h; rw [decide_eq_false (show ¬ (0 ≤ F.f2 ∧ F.f2 ≤ F.f3 ∧ F.f3 ≤ 40) by omega), Bool.false_and]
  ·rw [if_neg k1, if_neg k2, if_pos k3]
   refine ev_ite (fun h => ev_ite (fun h' => ev_ite (fun h'' => ?_) (fun h'' => ev_now ?_)) (fun h' => ev_now ?_)) (fun h => ev_now ?_)
   ·rw [decide_eq_true (show F.f2 = 0 ∧ F.f3 = 0 from ⟨h, h'⟩), h'', Bool.true_and, Bool.true_and]
    exact Ev.bind (l23Names_ev F.f4 g4 g4s) (ev_now rfl)
   ·rw [decide_eq_true (show F.f2 = 0 ∧ F.f3 = 0 from ⟨h, h'⟩), Bool.eq_false_iff.2 h'']; rfl
   ·rw [decide_eq_false (show ¬ (F.f2 = 0 ∧ F.f3 = 0) by omega)]; rfl
   ·rw [decide_eq_false (show ¬ (F.f2 = 0 ∧ F.f3 = 0) by omega)]; rfl
  ·rw [if_neg k1, if_neg k2, if_neg k3, if_pos (show F.f1 = 4 by omega)]
   refine ev_ite (fun h => ev_ite (fun h' => ev_now ?_) (fun h' => ev_now ?_)) (fun h => ev_now ?_)
   ·rw [decide_eq_true (show F.f2 = 0 ∧ F.f3 = 0 from ⟨h, h'⟩), Bool.true_and, e0]
   ·rw [decide_eq_false (show ¬ (F.f2 = 0 ∧ F.f3 = 0) by omega)]; rfl
   ·rw [decide_eq_false (show ¬ (F.f2 = 0 ∧ F.f3 = 0) by omega)]; rfl
 rw [h1, decide_eq_true h2, Bool.true_and, Bool.true_and, Bool.true_and]
 refine Ev.step (fun k => rfl) ?_
 show Ev (fun k => if F.f6.toList = ([] : List UInt8) then _ else _) _
 unfold ifOk
 refine ev_ite (fun h4 => ev_cast tail (by simp [h4])) (fun h4 => ?_)
 have h4' : (F.f6.toList == []) = false := by simpa using h4
 rw [h4', Bool.false_or]
 refine Ev.bind (l23Find_ev form F.f6 hl) (ev_ite (fun h5 => ev_now ?_) (fun h5 => ev_ite (fun h6 => ev_now ?_) (fun h6 => ?_)))
 ·rw [decide_eq_false (by omega), Bool.false_and, Bool.false_and]
 ·rw [decide_eq_false (by omega), Bool.false_and, Bool.false_and]
 ·refine ev_pos (by omega) (ev_pos (by omega) ?_)
  simp only [rd_T54]
  rw [decide_eq_true (show 0 ≤ fidx form F.f6 ∧ fidx form F.f6 < (i : Int) by omega), Bool.true_and]
  refine ev_ite (fun h7 => ev_cast tail ?_) (fun h7 => ev_now ?_)
  ·show kindOk F = (((form.getD (fidx form F.f6).toNat z54).f1 == 4) && kindOk F)
   rw [h7]; rfl
  ·show false = (((form.getD (fidx form F.f6).toNat z54).f1 == 4) && kindOk F)
   rw [show ((form.getD (fidx form F.f6).toNat z54).f1 == 4) = false from by simpa using h7]; rfl
def formB (form : List Field) : Bool := decide ((form.length : Int) ≤ 10) && (List.range form.length).all (fieldB form)
theorem specForm_ev (form : List Field) (hl : form.length ≤ 9223372036854775807) (hf : ∀ f ∈ form, fine f) : Ev (fun k => spec_l23Good.f k form) (formB form) := by
 unfold spec_l23Good.f
 refine ev_ite (fun h => ev_now ?_) (fun h => ?_)
 ·unfold formB; rw [decide_eq_false (by omega), Bool.false_and]
 unfold formB
 rw [decide_eq_true (by omega), Bool.true_and]
 have h := ev_all0 (L := fun k i => spec_l23Good.l0 k form i) form.length (fieldB form) false true (fun _ => Ev.step (fun k => rfl) (ev_neg (by omega) (ev_now rfl))) ?h1 ?h2
 case h1 =>
  intro i hi _ hc y hy
  refine Ev.step (fun k => rfl) (ev_pos (by omega) (Ev.bind (specField_ev form i hi hl (hf _ (by rw [getD_in hi]; exact List.getElem_mem hi))) (ev_pos hc ?_)))
  rw [wrap_succ hi hl]; exact hy
 case h2 =>
  intro i hi _ hc
  exact Ev.step (fun k => rfl) (ev_pos (by omega) (Ev.bind (specField_ev form i hi hl (hf _ (by rw [getD_in hi]; exact List.getElem_mem hi))) (ev_neg (by rw [hc]; simp) (ev_now rfl))))
 refine ev_cast h ?_
 cases (List.range form.length).all (fieldB form) <;> rfl
end Go.Proofs.YtiaiohoadefgjaaDoor.X
set_option linter.unusedVariables false
set_option linter.unusedSimpArgs false
namespace Go.Proofs.YtiaiohoadefgjaaDoor.X
open Go.RowKit Go.Proofs.YtiaiohoadefgjaaDoorW.PrintWords Go.Proofs.YtiaiohoadefgjaaDoor.E
theorem among_tot {l : List Int} {a : Int} (s : Int) (ts : List Int) (ht : 1 ≤ ts.length) (h : Cu l a) (hb : a ≤ 999990) : ∃ v a' s', spec_l1Cur_among.f l a s ts = some (v, a', s') ∧ v ∈ ts ∧ Cu l a' ∧ (a ≤ a' ∧ a' ≤ a + 2) := by
 obtain ⟨v, a', s', e, h0, h1, h2⟩ := pick_in s (ts.length : Int) (by omega) h hb
 unfold spec_l1Cur_among.f
 rw [e, Option.bind_some, if_pos h0.1, if_pos h0.2]
 refine ⟨_, _, _, rfl, ?_, h1, h2⟩
 dsimp only
 obtain ⟨i, rfl⟩ : ∃ i : Nat, v = (i : Int) := ⟨v.toNat, by omega⟩
 rw [rd_nat, getD_in (by omega)]
 exact List.getElem_mem _
def GoodF (n : Nat) (F : Field) : Prop := F.f0.size ≤ 10 ∧ F.f4.length ≤ n ∧ (∀ s ∈ F.f4, s.size ≤ 10) ∧ F.f6.size ≤ 10 ∧ (-2000000 ≤ F.f2 ∧ F.f2 ≤ 2000000) ∧ (-2000000 ≤ F.f3 ∧ F.f3 ≤ 2000000)
def nm6 : List ByteArray := [(⟨#[107, 105, 110, 100]⟩ : ByteArray), (⟨#[100, 101, 112, 116, 104]⟩ : ByteArray), (⟨#[110, 111, 116, 101]⟩ : ByteArray), (⟨#[119, 101, 116]⟩ : ByteArray), (⟨#[99, 111, 108, 111, 114]⟩ : ByteArray), (⟨#[102, 105, 110, 100, 115]⟩ : ByteArray)]
def nm4 : List ByteArray := [(⟨#[114, 101, 100]⟩ : ByteArray), (⟨#[103, 114, 101, 121]⟩ : ByteArray), (⟨#[98, 114, 111, 119, 110]⟩ : ByteArray), (⟨#[105, 102]⟩ : ByteArray)]
theorem nm6_sz : ∀ s ∈ nm6, s.size ≤ 10 := by
 intro s hs
 unfold nm6 at hs
 simp only [List.mem_cons, List.not_mem_nil, or_false] at hs
 rcases hs with rfl | rfl | rfl | rfl | rfl | rfl <;> decide
theorem nm4_sz : ∀ s ∈ nm4, s.size ≤ 10 := by
 intro s hs
 unfold nm4 at hs
 simp only [List.mem_cons, List.not_mem_nil, or_false] at hs
 rcases hs with rfl | rfl | rfl | rfl <;> decide
theorem rd_small {ws : List ByteArray} (h : ∀ s ∈ ws, s.size ≤ 10) (i : Int) : (rdOf ByteArray.empty ws i).size ≤ 10 := by
 unfold rdOf
 rw [List.getD_eq_getElem?_getD]
 cases e : ws[i.toNat]? with
 | none => show ByteArray.empty.size ≤ 10; decide
 | some w => exact h w (List.mem_of_getElem? e)
theorem rdF_good {n : Nat} {L : List Field} (h : ∀ f ∈ L, GoodF n f) {i : Int} (h0 : 0 ≤ i) (h1 : i < (L.length : Int)) : GoodF n (rd_T54 L i) := by
 unfold rd_T54
 rw [List.getD_eq_getElem?_getD, List.getElem?_eq_getElem (by omega)]
 exact h _ (List.getElem_mem _)
theorem goodF_set {n m : Nat} (hn : n ≤ m) {L : List Field} (h : ∀ f ∈ L, GoodF n f) (i : Nat) {F : Field} (hF : GoodF m F) : ∀ f ∈ L.set i F, GoodF m f := by
 intro f hf
 rcases List.mem_or_eq_of_mem_set hf with h1 | h1
 ·have := h f h1
  exact ⟨this.1, Nat.le_trans this.2.1 hn, this.2.2⟩
 ·rw [h1]; exact hF
theorem formEnd_tot {l : List Int} {a : Int} (s : Int) (L : List Field) (hL : 1 ≤ L.length ∧ L.length ≤ 6) (hg : ∀ f ∈ L, GoodF 4 f) (h : Cu l a) (hb : a ≤ 900000) : ∃ L' a' s', spec_l1Cur_form.e l a s L = some (L', a', s') ∧ L'.length ≤ 6 ∧ (∀ f ∈ L', GoodF 5 f) ∧ Cu l a' ∧ (a ≤ a' ∧ a' ≤ a + 6) := by
 obtain ⟨i, a1, s1, e1, hi, c1, b1⟩ := pick_in s (L.length : Int) (by omega) h (by omega)
 obtain ⟨v, a2, s2, e2, hv, c2, b2⟩ := pick_in s1 20 (by omega) c1 (by omega)
 have G := rdF_good hg hi.1 hi.2
 unfold spec_l1Cur_form.e
 rw [e1, Option.bind_some]
 dsimp only
 rw [if_pos hi.1, if_pos hi.2, e2, Option.bind_some]
 dsimp only
 generalize rd_T54 L i = F at G
 have up : ∀ F' : Field, GoodF 5 F' → ∀ f ∈ L.set i.toNat F', GoodF 5 f := fun F' hF' => goodF_set (by omega) hg i.toNat hF'
 have sl : ∀ F' : Field, (L.set i.toNat F').length ≤ 6 := fun F' => by rw [List.length_set]; exact hL.2
 obtain ⟨g0, g4, g5, g6, g2, g3⟩ := G
 by_cases d0 : v = 0
 ·rw [if_pos d0]
  obtain ⟨t, a3, s3, e3, hm, c3, b3⟩ := of_tot s2 [(⟨#[107, 105, 110, 100]⟩ : ByteArray), (⟨#[]⟩ : ByteArray), (⟨#[65]⟩ : ByteArray), (⟨#[110, 111, 116, 101]⟩ : ByteArray)] (by decide) c2 (by omega)
  rw [e3, Option.bind_some]
  have hz : t.size ≤ 10 := by
   simp only [List.mem_cons, List.not_mem_nil, or_false] at hm
   rcases hm with rfl | rfl | rfl | rfl <;> decide
  exact ⟨_, _, _, rfl, sl _, up _ ⟨hz, Nat.le_succ_of_le g4, g5, g6, g2, g3⟩, c3, by first | (dsimp only; omega) | omega, by first | (dsimp only; omega) | omega⟩
 rw [if_neg d0]
 by_cases d1 : v = 1
 ·rw [if_pos d1]
  obtain ⟨t, a3, s3, e3, hm, c3, b3⟩ := pick_in s2 6 (by omega) c2 (by omega)
  rw [e3, Option.bind_some]
  exact ⟨_, _, _, rfl, sl _, up _ ⟨g0, Nat.le_succ_of_le g4, g5, g6, g2, g3⟩, c3, by first | (dsimp only; omega) | omega, by first | (dsimp only; omega) | omega⟩
 rw [if_neg d1]
 by_cases d2 : v = 2
 ·rw [if_pos d2]
  obtain ⟨t, a3, s3, e3, hm, c3, b3⟩ := among_tot s2 [(-999999), (-1000000), 40, 41, 1] (by simp) c2 (by omega)
  rw [e3, Option.bind_some]
  have hz : -2000000 ≤ t ∧ t ≤ 2000000 := by
   simp only [List.mem_cons, List.not_mem_nil, or_false] at hm
   omega
  exact ⟨_, _, _, rfl, sl _, up _ ⟨g0, Nat.le_succ_of_le g4, g5, g6, hz, g3⟩, c3, by first | (dsimp only; omega) | omega, by first | (dsimp only; omega) | omega⟩
 rw [if_neg d2]
 by_cases d3 : v = 3
 ·rw [if_pos d3]
  obtain ⟨t, a3, s3, e3, hm, c3, b3⟩ := among_tot s2 [999999, 1000000, 40, 41, (-9)] (by simp) c2 (by omega)
  rw [e3, Option.bind_some]
  have hz : -2000000 ≤ t ∧ t ≤ 2000000 := by
   simp only [List.mem_cons, List.not_mem_nil, or_false] at hm
   omega
  exact ⟨_, _, _, rfl, sl _, up _ ⟨g0, Nat.le_succ_of_le g4, g5, g6, g2, hz⟩, c3, by first | (dsimp only; omega) | omega, by first | (dsimp only; omega) | omega⟩
 rw [if_neg d3]
 by_cases d4 : v = 4
 ·rw [if_pos d4]
  obtain ⟨t, a3, s3, e3, hm, c3, b3⟩ := of_tot s2 [(⟨#[119, 101, 116]⟩ : ByteArray), (⟨#[107, 105, 110, 100]⟩ : ByteArray), F.f0, (⟨#[122, 122]⟩ : ByteArray)] (by simp) c2 (by omega)
  rw [e3, Option.bind_some]
  have hz : t.size ≤ 10 := by
   simp only [List.mem_cons, List.not_mem_nil, or_false] at hm
   rcases hm with rfl | rfl | rfl | rfl
   ·decide
   ·decide
   ·exact g0
   ·decide
  exact ⟨_, _, _, rfl, sl _, up _ ⟨g0, Nat.le_succ_of_le g4, g5, hz, g2, g3⟩, c3, by first | (dsimp only; omega) | omega, by first | (dsimp only; omega) | omega⟩
 rw [if_neg d4]
 by_cases d5 : v = 5
 ·rw [if_pos d5, if_pos (by omega)]
  refine ⟨_, _, _, rfl, sl _, up _ ⟨g0, by rw [List.length_append, List.length_singleton]; omega, fun s hs => ?_, g6, g2, g3⟩, c2, by first | (dsimp only; omega) | omega, by first | (dsimp only; omega) | omega⟩
  rcases List.mem_append.1 hs with h1 | h1
  ·exact g5 s h1
  ·rw [List.mem_singleton.1 h1]; decide
 ·rw [if_neg d5]
  exact ⟨_, _, _, rfl, sl _, up _ ⟨g0, Nat.le_succ_of_le g4, g5, g6, g2, g3⟩, c2, by first | (dsimp only; omega) | omega, by first | (dsimp only; omega) | omega⟩
def Fits (l : List Int) (m : Nat) (L : List Field) (fl : List ByteArray) (a : Int) : Prop := (1 ≤ L.length + m ∧ L.length + m ≤ 6) ∧ (∀ f ∈ L, GoodF 4 f) ∧ fl.length ≤ L.length ∧ (∀ w ∈ fl, w.size ≤ 10) ∧ Cu l a ∧ a + 20 * m ≤ 1000
def Ends (l : List Int) (r : List Field × Int × Int) : Prop := r.1.length ≤ 6 ∧ (∀ f ∈ r.1, GoodF 5 f) ∧ Cu l r.2.1 ∧ r.2.1 ≤ 2000
theorem formStop {l : List Int} (L : List Field) (fl : List ByteArray) (a s x6 : Int) (hx : ¬ x6 > 0) {r : List Field × Int × Int} (h : spec_l1Cur_form.e l a s L = some r) : Ev (fun k => spec_l1Cur_form.l0 k L nm6 fl x6 l a s) r := Ev.step (fun k => rfl) (ev_neg hx (ev_of h))
theorem formNext {l : List Int} {m : Nat} (hn : ∀ L fl a s, Fits l m L fl a → ∃ r, Ev (fun k => spec_l1Cur_form.l0 k L nm6 fl (m : Int) l a s) r ∧ Ends l r)
  (L : List Field) (fl : List ByteArray) (a s : Int) (hL : L.length + m ≤ 5) (hg : ∀ f ∈ L, GoodF 4 f) (hf : fl.length ≤ L.length) (hw : ∀ w ∈ fl, w.size ≤ 10) (hc : Cu l a) (hb : a + 20 * m ≤ 1000)
  (n : ByteArray) (kd lo hi : Int) (cs : List ByteArray) (nd : Bool) (f6 : ByteArray) (hF : GoodF 4 ⟨n, kd, lo, hi, cs, nd, f6⟩) (x6 : Int) (hx : x6 = (m : Int)) : ∃ r, Ev (fun k => if kd = 4 then (if fl.length < 8796093022208 then (if L.length < 1599289640401 then (spec_l1Cur_form.l0 k (L ++ [(⟨n, kd, lo, hi, cs, nd, f6⟩ : Field)]) nm6 (fl ++ [n]) x6 l a s) else none) else none) else (if L.length < 1599289640401 then (spec_l1Cur_form.l0 k (L ++ [(⟨n, kd, lo, hi, cs, nd, f6⟩ : Field)]) nm6 fl x6 l a s) else none)) r ∧ Ends l r := by
 subst hx
 have hl1 : (L ++ [(⟨n, kd, lo, hi, cs, nd, f6⟩ : Field)]).length = L.length + 1 := by rw [List.length_append, List.length_singleton]
 have hg1 : ∀ f ∈ L ++ [(⟨n, kd, lo, hi, cs, nd, f6⟩ : Field)], GoodF 4 f := fun f h1 => (List.mem_append.1 h1).elim (hg f) (fun h2 => by rw [List.mem_singleton.1 h2]; exact hF)
 by_cases c4 : kd = 4
 ·obtain ⟨r, h1, h2⟩ := hn (L ++ [(⟨n, kd, lo, hi, cs, nd, f6⟩ : Field)]) (fl ++ [n]) a s ⟨by omega, hg1, by rw [List.length_append, List.length_singleton]; omega, fun w h1 => (List.mem_append.1 h1).elim (hw w) (fun h2 => by rw [List.mem_singleton.1 h2]; exact hF.1), hc, by omega⟩
  exact ⟨r, ev_pos c4 (ev_pos (by omega) (ev_pos (by omega) h1)), h2⟩
 ·obtain ⟨r, h1, h2⟩ := hn (L ++ [(⟨n, kd, lo, hi, cs, nd, f6⟩ : Field)]) fl a s ⟨by omega, hg1, by omega, hw, hc, by omega⟩
  exact ⟨r, ev_neg c4 (ev_pos (by omega) h1), h2⟩
theorem formJ1 {l : List Int} {m : Nat} (hn : ∀ L fl a s, Fits l m L fl a → ∃ r, Ev (fun k => spec_l1Cur_form.l0 k L nm6 fl (m : Int) l a s) r ∧ Ends l r)
  (L : List Field) (fl : List ByteArray) (a s : Int) (hL : L.length + m ≤ 5) (hg : ∀ f ∈ L, GoodF 4 f) (hf : fl.length ≤ L.length) (hw : ∀ w ∈ fl, w.size ≤ 10) (hc : Cu l a) (hb : a + 4 + 20 * m ≤ 1000)
  (n : ByteArray) (kd lo hi : Int) (cs : List ByteArray) (nd : Bool) (hF : GoodF 4 ⟨n, kd, lo, hi, cs, nd, (⟨#[]⟩ : ByteArray)⟩) : ∃ r, Ev (fun k => spec_l1Cur_form.j1 k L nm6 fl ((m + 1 : Nat) : Int) l a s n kd lo hi cs nd (⟨#[]⟩ : ByteArray)) r ∧ Ends l r := by
 have hwr : wrap64 (((m + 1 : Nat) : Int) - 1) = (m : Int) := wrap_pred (by omega) (by omega)
 have hno : ∀ (b : Bool) (a' s' : Int), b = false → Cu l a' → a' + 20 * m ≤ 1000 → ∃ r, Ev (fun k => spec_l1Cur_form.j2 k L nm6 fl ((m + 1 : Nat) : Int) b l a' s' n kd lo hi cs nd (⟨#[]⟩ : ByteArray)) r ∧ Ends l r := by
  intro b a' s' hbf hc' hb'
  obtain ⟨r, h1, h2⟩ := formNext hn L fl a' s' hL hg hf hw hc' hb' n kd lo hi cs nd (⟨#[]⟩ : ByteArray) hF _ hwr
  exact ⟨r, Ev.step (fun k => rfl) (ev_neg (by rw [hbf]; simp) h1), h2⟩
 have hyes : ∀ (b : Bool) (a' s' : Int), b = true → 1 ≤ fl.length → Cu l a' → a' + 2 + 20 * m ≤ 1000 → ∃ r, Ev (fun k => spec_l1Cur_form.j2 k L nm6 fl ((m + 1 : Nat) : Int) b l a' s' n kd lo hi cs nd (⟨#[]⟩ : ByteArray)) r ∧ Ends l r := by
  intro b a' s' hbt h1l hc' hb'
  obtain ⟨v, a2, s2, e2, hv, c2, b2⟩ := pick_in s' (fl.length : Int) (by omega) hc' (by omega)
  have hF2 : GoodF 4 ⟨n, kd, lo, hi, cs, nd, rdOf ByteArray.empty fl v⟩ := ⟨hF.1, hF.2.1, hF.2.2.1, rd_small hw v, hF.2.2.2.2⟩
  obtain ⟨r, h1, h2⟩ := formNext hn L fl a2 s2 hL hg hf hw c2 (by omega) n kd lo hi cs nd (rdOf ByteArray.empty fl v) hF2 _ hwr
  exact ⟨r, Ev.step (fun k => rfl) (ev_pos hbt (ev_bind0 e2 (ev_pos hv.1 (ev_pos hv.2 h1)))), h2⟩
 by_cases c : (fl.length : Int) > 0
 ·obtain ⟨b, a1, s1, e1, c1, b1⟩ := one_tot s 2 hc (by omega)
  cases hb1 : b
  ·obtain ⟨r, h1, h2⟩ := hno b a1 s1 hb1 c1 (by omega)
   exact ⟨r, Ev.step (fun k => rfl) (ev_pos c (ev_bind0 e1 h1)), h2⟩
  ·obtain ⟨r, h1, h2⟩ := hyes b a1 s1 hb1 (by omega) c1 (by omega)
   exact ⟨r, Ev.step (fun k => rfl) (ev_pos c (ev_bind0 e1 h1)), h2⟩
 ·obtain ⟨r, h1, h2⟩ := hno false a s rfl hc (by omega)
  exact ⟨r, Ev.step (fun k => rfl) (ev_neg c h1), h2⟩
theorem formLoop_tot {l : List Int} : ∀ (m : Nat) (L : List Field) (fl : List ByteArray) (a s : Int), Fits l m L fl a → ∃ r, Ev (fun k => spec_l1Cur_form.l0 k L nm6 fl (m : Int) l a s) r ∧ Ends l r := by
 intro m
 induction m with
 | zero =>
  intro L fl a s h
  obtain ⟨h1, hg, hf, hw, hc, hb⟩ := h
  obtain ⟨L', a', s', e, z1, z2, z3, z4⟩ := formEnd_tot s L (by omega) hg hc (by omega)
  exact ⟨(L', a', s'), formStop L fl a s _ (by simp) e, z1, z2, z3, by show a' ≤ 2000; omega⟩
 | succ m ih =>
  intro L fl a s h
  obtain ⟨h1, hg, hf, hw, hc, hb⟩ := h
  have hnl : (nm6.length : Int) = 6 := rfl
  have hN : (rdOf ByteArray.empty nm6 (L.length : Int)).size ≤ 10 := rd_small nm6_sz _
  obtain ⟨v, a1, s1, e1, hv, c1, b1⟩ := pick_in s 4 (by omega) hc (by omega)
  obtain ⟨nd, a2, s2, e2, c2, b2⟩ := one_tot s1 2 c1 (by omega)
  have hkw : wrap64 (1 + v) = 1 + v := wrap_id (by omega) (by omega)
  have e0 : (⟨#[]⟩ : ByteArray).size ≤ 10 := by decide
  by_cases k1 : wrap64 (1 + v) = 1
  ·obtain ⟨x, a3, s3, e3, hx, c3, b3⟩ := among_tot s2 [0, (-5), 1] (by simp) c2 (by omega)
   obtain ⟨y, a4, s4, e4, hy, c4, b4⟩ := among_tot s3 [0, 10, 100] (by simp) c3 (by omega)
   simp only [List.mem_cons, List.not_mem_nil, or_false] at hx hy
   have hxy : wrap64 (x + y) = x + y := wrap_id (by omega) (by omega)
   obtain ⟨r, r1, r2⟩ := formJ1 ih L fl a4 s4 (by omega) hg hf hw c4 (by omega) (rdOf ByteArray.empty nm6 (L.length : Int)) (wrap64 (1 + v)) x (wrap64 (x + y)) [] nd ⟨hN, by simp, by simp, e0, ⟨by show -2000000 ≤ x; omega, by show x ≤ 2000000; omega⟩, ⟨by show -2000000 ≤ wrap64 (x + y); omega, by show wrap64 (x + y) ≤ 2000000; omega⟩⟩
   exact ⟨r, Ev.step (fun k => rfl) (ev_pos (by omega) (ev_pos (by omega) (ev_pos (by omega) (ev_bind0 e1 (ev_bind0 e2 (ev_pos k1 (ev_bind0 e3 (ev_bind0 e4 r1)))))))), r2⟩
  by_cases k2 : wrap64 (1 + v) = 2
  ·obtain ⟨x, a3, s3, e3, hx, c3, b3⟩ := pick_in s2 3 (by omega) c2 (by omega)
   obtain ⟨y, a4, s4, e4, hy, c4, b4⟩ := pick_in s3 20 (by omega) c3 (by omega)
   have hxy : wrap64 (x + y) = x + y := wrap_id (by omega) (by omega)
   obtain ⟨r, r1, r2⟩ := formJ1 ih L fl a4 s4 (by omega) hg hf hw c4 (by omega) (rdOf ByteArray.empty nm6 (L.length : Int)) (wrap64 (1 + v)) x (wrap64 (x + y)) [] nd ⟨hN, by simp, by simp, e0, ⟨by show -2000000 ≤ x; omega, by show x ≤ 2000000; omega⟩, ⟨by show -2000000 ≤ wrap64 (x + y); omega, by show wrap64 (x + y) ≤ 2000000; omega⟩⟩
   exact ⟨r, Ev.step (fun k => rfl) (ev_pos (by omega) (ev_pos (by omega) (ev_pos (by omega) (ev_bind0 e1 (ev_bind0 e2 (ev_neg k1 (ev_pos k2 (ev_bind0 e3 (ev_bind0 e4 r1))))))))), r2⟩
  by_cases k3 : wrap64 (1 + v) = 3
  ·obtain ⟨x, a3, s3, e3, hx, c3, b3⟩ := pick_in s2 3 (by omega) c2 (by omega)
   obtain ⟨y, a4, s4, e4, hy, c4, b4⟩ := pick_in s3 9 (by omega) c3 (by omega)
   have hq : 0 ≤ Int.tdiv y 8 ∧ Int.tdiv y 8 ≤ 1 := by
    rw [Int.tdiv_eq_ediv_of_nonneg hy.1]
    omega
   have w1 : wrap64 (1 + x) = 1 + x := wrap_id (by omega) (by omega)
   have w2 : wrap64 (Int.tdiv y 8) = Int.tdiv y 8 := wrap_id (by omega) (by omega)
   have w3 : wrap64 ((wrap64 (1 + x)) + (wrap64 (Int.tdiv y 8))) = 1 + x + Int.tdiv y 8 := by rw [w1, w2]; exact wrap_id (by omega) (by omega)
   have h4 : (nm4.length : Int) = 4 := rfl
   obtain ⟨r, r1, r2⟩ := formJ1 ih L fl a4 s4 (by omega) hg hf hw c4 (by omega) (rdOf ByteArray.empty nm6 (L.length : Int)) (wrap64 (1 + v)) 0 0 (nm4.take ((wrap64 ((wrap64 (1 + x)) + (wrap64 (Int.tdiv y 8)))) : Int).toNat) nd ⟨hN, by show (nm4.take _).length ≤ 4; rw [List.length_take]; exact Nat.le_trans (Nat.min_le_right _ _) (by decide), fun s hs => nm4_sz s (List.mem_of_mem_take hs), e0, ⟨by show (-2000000 : Int) ≤ 0; omega, by show (0 : Int) ≤ 2000000; omega⟩, ⟨by show (-2000000 : Int) ≤ 0; omega, by show (0 : Int) ≤ 2000000; omega⟩⟩
   exact ⟨r, Ev.step (fun k => rfl) (ev_pos (by omega) (ev_pos (by omega) (ev_pos (by omega) (ev_bind0 e1 (ev_bind0 e2 (ev_neg k1 (ev_neg k2 (ev_pos k3 (ev_some (ev_bind0 e3 (ev_bind0 e4 (ev_pos (by first | (dsimp only; omega) | omega) (ev_pos (by dsimp only; rw [w3]; show _ ≤ (nm4.length : Int); omega) r1))))))))))))), r2⟩
  ·obtain ⟨r, r1, r2⟩ := formJ1 ih L fl a2 s2 (by omega) hg hf hw c2 (by omega) (rdOf ByteArray.empty nm6 (L.length : Int)) (wrap64 (1 + v)) 0 0 [] nd ⟨hN, by simp, by simp, e0, ⟨by show (-2000000 : Int) ≤ 0; omega, by show (0 : Int) ≤ 2000000; omega⟩, ⟨by show (-2000000 : Int) ≤ 0; omega, by show (0 : Int) ≤ 2000000; omega⟩⟩
   exact ⟨r, Ev.step (fun k => rfl) (ev_pos (by omega) (ev_pos (by omega) (ev_pos (by omega) (ev_bind0 e1 (ev_bind0 e2 (ev_neg k1 (ev_neg k2 (ev_neg k3 r1)))))))), r2⟩
theorem form_tot {l : List Int} (h : Cu l 0) (s : Int) : ∃ L a' s', Ev (fun k => spec_l1Cur_form.f k l 0 s) (L, a', s') ∧ L.length ≤ 6 ∧ (∀ f ∈ L, GoodF 5 f) ∧ Cu l a' ∧ a' ≤ 2000 := by
 obtain ⟨v, a1, s1, e1, hv, c1, b1⟩ := pick_in s 6 (by omega) h (by omega)
 obtain ⟨m, hm⟩ : ∃ m : Nat, wrap64 (1 + v) = (m : Int) ∧ (1 ≤ m ∧ m ≤ 6) := ⟨(1 + v).toNat, by rw [wrap_id (by omega) (by omega)]; omega, by omega⟩
 obtain ⟨⟨L, a', s'⟩, h1, h2, h3, h4, h5⟩ := formLoop_tot (l := l) m [] [] a1 s1 ⟨by simp; omega, by simp, by simp, by simp, c1, by omega⟩
 refine ⟨L, a', s', ev_bind0 e1 ?_, h2, h3, h4, h5⟩
 dsimp only
 rw [hm.1]
 exact h1
end Go.Proofs.YtiaiohoadefgjaaDoor.X
set_option linter.unusedVariables false
set_option linter.unusedSimpArgs false
namespace Go.Proofs.YtiaiohoadefgjaaDoor.X
open Go.RowKit Go.Proofs.YtiaiohoadefgjaaDoorW.PrintWords Go.Proofs.YtiaiohoadefgjaaDoor.E
theorem choiceLoop_ev (F : Field) (hF : fine F) :
  Ev (fun k => impl_isField.l0 k F.f4 (F.f4.length : Int) 0 F.f0 F.f1 F.f2 F.f3 F.f4 F.f5 F.f6) (decide (F.f2 = 0 ∧ F.f3 = 0) && decide (1 ≤ (F.f4.length : Int) ∧ (F.f4.length : Int) ≤ 6) && choices F.f4) := by
 obtain ⟨g0, g4, g4s, g6⟩ := hF
 have h := ev_all0 (L := fun k i => impl_isField.l0 k F.f4 (F.f4.length : Int) i F.f0 F.f1 F.f2 F.f3 F.f4 F.f5 F.f6) F.f4.length (choiceAt F.f4) false
  (decide (F.f2 = 0 ∧ F.f3 = 0) && decide (1 ≤ (F.f4.length : Int) ∧ (F.f4.length : Int) ≤ 6)) (fun _ => Ev.step (fun k => rfl) (ev_neg (by omega) ?h0)) ?h1 ?h2
 case h0 =>
  simp only [within_eq]
  refine ev_ite (fun h => ev_ite (fun h' => ev_now ?_) (fun h' => ev_now ?_)) (fun h => ev_now ?_)
  ·rw [h, Bool.and_true]
   rw [Bool.eq_iff_iff, beq_iff_eq, decide_eq_true_eq]
   exact ⟨fun e => ⟨h', e⟩, fun e => e.2⟩
  ·rw [decide_eq_false (show ¬ (F.f2 = 0 ∧ F.f3 = 0) by omega), Bool.false_and]
  ·rw [Bool.eq_false_iff.2 h, Bool.and_false]
 case h1 =>
  intro i hi _ hc y hy
  simp only [choiceAt, Bool.and_eq_true] at hc
  refine Ev.step (fun k => rfl) (ev_pos (by omega) (ev_pos (by omega) (ev_pos (by omega) ?_)))
  simp only [rdOf, Int.toNat_natCast]
  refine Ev.bind (isName_ev _ (by rw [getD_in hi]; exact g4s _ (List.getElem_mem hi))) (ev_pos hc.1 (ev_pos (by omega) ?_))
  refine Ev.bind (slicesContainsStr_ev _ _ (by simp; omega)) (ev_neg ?_ ?_)
  ·rw [any_take _ _ hi, hc.2]; simp
  ·rw [wrap_succ hi g4]; exact hy
 case h2 =>
  intro i hi _ hc
  refine Ev.step (fun k => rfl) (ev_pos (by omega) (ev_pos (by omega) (ev_pos (by omega) ?_)))
  simp only [rdOf, Int.toNat_natCast]
  refine Ev.bind (isName_ev _ (by rw [getD_in hi]; exact g4s _ (List.getElem_mem hi))) (ev_ite (fun h1 => ev_pos (by omega) ?_) (fun _ => ev_now rfl))
  refine Ev.bind (slicesContainsStr_ev _ _ (by simp; omega)) (ev_pos ?_ (ev_now rfl))
  rw [any_take _ _ hi]
  unfold choiceAt at hc
  rw [h1, Bool.true_and] at hc
  rw [hc]; rfl
 refine ev_cast h ?_
 unfold choices
 cases (List.range F.f4.length).all (choiceAt F.f4) <;> simp
theorem kindSwitch_ev (F : Field) (hF : fine F) : Ev (fun k => impl_isField.j1 k false F.f0 F.f1 F.f2 F.f3 F.f4 F.f5 F.f6) (decide (1 ≤ F.f1 ∧ F.f1 ≤ 4) && kindOk F) := by
 have e0 : decide ((F.f4.length : Int) > 0) = !(F.f4.length == 0) := by
  cases h : (F.f4.length == 0)
  ·have : ¬ F.f4.length = 0 := by simpa using h
   rw [decide_eq_true (by omega)]; rfl
  ·have : F.f4.length = 0 := by simpa using h
   rw [decide_eq_false (by omega)]; rfl
 have bad : Ev (fun k => impl_isField.j2 k true F.f0 F.f1 F.f2 F.f3 F.f4 F.f5 F.f6) false := Ev.step (fun k => rfl) (ev_now rfl)
 refine Ev.step (fun k => rfl) ?_
 show Ev (fun k => if F.f1 = 3 then impl_isField.j2 k false F.f0 F.f1 F.f2 F.f3 F.f4 F.f5 F.f6 else impl_isField.j2 k (decide ((F.f4.length : Int) > 0)) F.f0 F.f1 F.f2 F.f3 F.f4 F.f5 F.f6) _
 have sw : F.f1 = 3 ∨ (F.f4.length == 0) = true → Ev (fun k => impl_isField.j2 k false F.f0 F.f1 F.f2 F.f3 F.f4 F.f5 F.f6) (decide (1 ≤ F.f1 ∧ F.f1 ≤ 4) && kindOk F) := by
  intro hz
  refine Ev.step (fun k => rfl) ?_
  show Ev (fun k => if F.f1 = 1 then _ else _) _
  unfold kindOk
  refine ev_ite (fun k1 => ?_) (fun k1 => ev_ite (fun k2 => ?_) (fun k2 => ev_ite (fun k3 => ?_) (fun k3 => ev_ite (fun k4 => ?_) (fun k4 => ev_now ?_))))
  ·rw [if_pos k1, decide_eq_true (show 1 ≤ F.f1 ∧ F.f1 ≤ 4 by omega), Bool.true_and, show (F.f4.length == 0) = true from hz.resolve_left (by omega), Bool.and_true]
   refine ev_ite (fun h => ev_ite (fun h' => ev_now ?_) (fun h' => ev_now ?_)) (fun h => ev_now ?_)
   ·rw [Bool.eq_iff_iff, decide_eq_true_eq, decide_eq_true_eq]; omega
   ·rw [decide_eq_false (by omega)]
   ·rw [decide_eq_false (by omega)]
  ·rw [if_neg k1, if_pos k2, decide_eq_true (show 1 ≤ F.f1 ∧ F.f1 ≤ 4 by omega), Bool.true_and, show (F.f4.length == 0) = true from hz.resolve_left (by omega), Bool.and_true]
   refine ev_ite (fun h => ev_ite (fun h' => ev_now ?_) (fun h' => ev_now ?_)) (fun h => ev_now ?_)
   ·rw [Bool.eq_iff_iff, decide_eq_true_eq, decide_eq_true_eq]; omega
   ·rw [decide_eq_false (by omega)]
   ·rw [decide_eq_false (by omega)]
  ·rw [if_neg k1, if_neg k2, if_pos k3, decide_eq_true (show 1 ≤ F.f1 ∧ F.f1 ≤ 4 by omega), Bool.true_and]
   exact choiceLoop_ev F hF
  ·rw [if_neg k1, if_neg k2, if_neg k3, if_pos k4, decide_eq_true (show 1 ≤ F.f1 ∧ F.f1 ≤ 4 by omega), Bool.true_and, show (F.f4.length == 0) = true from hz.resolve_left (by omega), Bool.and_true]
   refine ev_ite (fun h => ev_now ?_) (fun h => ev_now ?_)
   ·rw [Bool.eq_iff_iff, beq_iff_eq, decide_eq_true_eq]; exact ⟨fun e => ⟨h, e⟩, fun e => e.2⟩
   ·rw [decide_eq_false (by omega)]
  ·rw [decide_eq_false (show ¬ (1 ≤ F.f1 ∧ F.f1 ≤ 4) by omega), Bool.false_and]
 refine ev_ite (fun h3 => sw (.inl h3)) (fun h3 => ?_)
 rw [e0]
 cases hz : (F.f4.length == 0) with
 | true => exact sw (.inr hz)
 | false =>
  refine ev_cast bad ?_
  unfold kindOk
  rw [hz, if_neg h3]
  simp
theorem implField_ev (form : List Field) (i : Nat) (hi : i < form.length) (hl : form.length ≤ 9223372036854775807) (hf : fine (form.getD i zF)) :
  Ev (fun k => impl_isField.f k (form.take i) (form.getD i zF).f0 (form.getD i zF).f1 (form.getD i zF).f2 (form.getD i zF).f3 (form.getD i zF).f4 (form.getD i zF).f5 (form.getD i zF).f6) (fieldB form i) := by
 have hself : form[i]? = some (form.getD i zF) := by rw [getD_in hi, List.getElem?_eq_getElem hi]
 have hfirst := idxG_first (p := fun x : Field => x.f0.toList == (form.getD i zF).f0.toList) hself (by simp)
 have hFB : fieldB form i = (nameB (form.getD i zF).f0 && decide (fidx form (form.getD i zF).f0 = (i : Int)) && decide (1 ≤ (form.getD i zF).f1 ∧ (form.getD i zF).f1 ≤ 4) && ifOk form i (form.getD i zF).f6 && kindOk (form.getD i zF)) := rfl
 rw [hFB]
 clear hFB hself
 generalize form.getD i zF = F at *
 obtain ⟨g0, g4, g4s, g6⟩ := id hf
 have stop : ∀ b, b = false → Ev (fun k => impl_isField.j0 k (form.take i) true F.f0 F.f1 F.f2 F.f3 F.f4 F.f5 F.f6) b := fun b hb => hb ▸ Ev.step (fun k => rfl) (ev_now rfl)
 unfold impl_isField.f
 simp only [fieldOf_eq]
 refine Ev.bind (isName_ev F.f0 g0) (ev_ite (fun h1 => ?_) (fun h1 => stop _ (by simp [h1])))
 show Ev (fun k => impl_isField.j0 k (form.take i) (decide (fidx (form.take i) F.f0 ≥ 0)) F.f0 F.f1 F.f2 F.f3 F.f4 F.f5 F.f6) _
 by_cases h2 : fidx form F.f0 = (i : Int)
 case neg =>
  have h2' : ¬ fidx (form.take i) F.f0 < 0 := fun h => h2 (hfirst.2 h)
  rw [decide_eq_true (show fidx (form.take i) F.f0 ≥ 0 by omega)]
  exact stop _ (by simp [h2])
 have h2' := hfirst.1 h2
 rw [decide_eq_false (show ¬ fidx (form.take i) F.f0 ≥ 0 from by have : fidx (form.take i) F.f0 < 0 := h2'; omega)]
 rw [h1, decide_eq_true h2, Bool.true_and, Bool.true_and]
 have bad : ∀ b, b = false → Ev (fun k => impl_isField.j1 k true F.f0 F.f1 F.f2 F.f3 F.f4 F.f5 F.f6) b := fun b hb => hb ▸ Ev.step (fun k => rfl) (ev_now rfl)
 have good := kindSwitch_ev F hf
 refine Ev.step (fun k => rfl) ?_
 simp only [impl_isField.j0]
 refine ev_neg (by simp) (ev_bind0 (fieldOf_eq _ _) ?_)
 unfold ifOk
 refine ev_ite (fun h4 => ev_cast good (by simp [h4])) (fun h4 => ?_)
 have h4' : (F.f6.toList == []) = false := by simpa using h4
 rw [h4', Bool.false_or]
 have hif : fidx (form.take i) F.f6 = if ((0 : Nat) : Int) ≤ fidx form F.f6 ∧ fidx form F.f6 < ((0 + i : Nat) : Int) then fidx form F.f6 else -1 := idxG_take _ form 0 i
 refine ev_ite (fun h5 => bad _ ?_) (fun h5 => ?_)
 ·have : ¬ (0 ≤ fidx form F.f6 ∧ fidx form F.f6 < (i : Int)) := by
   intro h
   rw [hif, if_pos (by omega)] at h5
   omega
  rw [decide_eq_false this]; simp
 ·have hr : 0 ≤ fidx form F.f6 ∧ fidx form F.f6 < (i : Int) := by
   refine Classical.byContradiction (fun h => ?_)
   rw [hif, if_neg (by omega)] at h5
   omega
  have he : fidx (form.take i) F.f6 = fidx form F.f6 := by rw [hif, if_pos (by omega)]
  rw [decide_eq_true hr, Bool.true_and]
  have hlen : (form.take i).length = i := by simp; omega
  refine ev_pos (by omega) (ev_pos (by rw [he, hlen]; omega) ?_)
  have hrd : rd_T54 (form.take i) (fidx (form.take i) F.f6) = form.getD (fidx form F.f6).toNat zF := by
   unfold rd_T54
   rw [he, getD_in (by rw [hlen]; omega), List.getElem_take, getD_in (by omega)]
  simp only [hrd]
  by_cases h7 : (form.getD (fidx form F.f6).toNat zF).f1 = 4
  ·have e : ((form.getD (fidx form F.f6).toNat zF).f1 != 4) = false := bne_eq_false_iff_eq.mpr h7
   rw [e, h7]
   exact ev_cast good (by simp)
  ·have e : ((form.getD (fidx form F.f6).toNat zF).f1 != 4) = true := bne_iff_ne.mpr h7
   rw [e]
   rw [show ((form.getD (fidx form F.f6).toNat zF).f1 == 4) = false from beq_eq_false_iff_ne.mpr h7]
   exact bad _ (by simp)
theorem implForm_ev (form : List Field) (hl : form.length ≤ 9223372036854775807) (hf : ∀ f ∈ form, fine f) : Ev (fun k => impl_IsValidForm.f k form) (formB form) := by
 have h := ev_all0 (L := fun k i => impl_IsValidForm.l0 k form form (form.length : Int) i) form.length (fieldB form) false (decide ((form.length : Int) ≤ 10)) (fun _ => Ev.step (fun k => rfl) (ev_neg (by omega) (ev_now rfl))) ?h1 ?h2
 case h1 =>
  intro i hi _ hc y hy
  refine Ev.step (fun k => rfl) (ev_pos (by omega) (ev_pos (by omega) (ev_pos (by omega) (ev_pos (by omega) ?_))))
  simp only [rd_T54, Int.toNat_natCast]
  refine Ev.bind (implField_ev form i hi hl (hf _ (by rw [getD_in hi]; exact List.getElem_mem hi))) (ev_pos hc ?_)
  rw [wrap_succ hi hl]; exact hy
 case h2 =>
  intro i hi _ hc
  refine Ev.step (fun k => rfl) (ev_pos (by omega) (ev_pos (by omega) (ev_pos (by omega) (ev_pos (by omega) ?_))))
  simp only [rd_T54, Int.toNat_natCast]
  exact Ev.bind (implField_ev form i hi hl (hf _ (by rw [getD_in hi]; exact List.getElem_mem hi))) (ev_neg (by rw [hc]; simp) (ev_now rfl))
 refine ev_cast h ?_
 unfold formB
 cases (List.range form.length).all (fieldB form) <;> simp
end Go.Proofs.YtiaiohoadefgjaaDoor.X
set_option linter.unusedVariables false
set_option linter.unusedSimpArgs false
namespace Go.Proofs.YtiaiohoadefgjaaDoor.X
open Go.RowKit Go.Proofs.YtiaiohoadefgjaaDoorW.PrintWords Go.Proofs.YtiaiohoadefgjaaDoor.E
abbrev Answer := S51
def fineA (a : Answer) : Prop := a.f0.size ≤ 9223372036854775807 ∧ a.f1.size ≤ 9223372036854775807
def lastI (form : List Field) (ans : List Answer) (i : Nat) : Int := if i = 0 then -1 else fidx form (ans.getD (i - 1) z51).f0
theorem lastI_succ (form : List Field) (ans : List Answer) (i : Nat) : lastI form ans (i + 1) = fidx form (ans.getD i z51).f0 := by
 unfold lastI
 rw [if_neg (by omega), Nat.add_sub_cancel]
def ansAt (form : List Field) (ans : List Answer) (i : Nat) : Bool := decide (lastI form ans i < fidx form (ans.getD i z51).f0) && textB (ans.getD i z51).f1
def ansB (form : List Field) (ans : List Answer) : Bool := formB form && (List.range ans.length).all (ansAt form ans)
theorem ans_short {form : List Field} {ans : List Answer} (h : (List.range ans.length).all (ansAt form ans) = true) : ans.length ≤ form.length := by
 have h' := all_range.1 h
 have low : ∀ i, i ≤ ans.length → (i : Int) - 1 ≤ lastI form ans i := by
  intro i
  induction i with
  | zero => intro _; simp [lastI]
  | succ i ih =>
   intro hi
   have h1 := ih (by omega)
   have h2 := h' i (by omega)
   simp only [ansAt, Bool.and_eq_true, decide_eq_true_eq] at h2
   rw [lastI_succ]
   omega
 rcases Nat.eq_zero_or_pos ans.length with e | e
 ·omega
 ·have h1 := low ans.length (Nat.le_refl _)
  have h3 : lastI form ans ans.length < (form.length : Int) := by
   rw [show ans.length = (ans.length - 1) + 1 from by omega, lastI_succ]
   rcases idxG_range (fun x : Field => x.f0.toList == (ans.getD (ans.length - 1) z51).f0.toList) form with h | h
   ·show fidx form _ < _
    rw [fidx, h]; omega
   ·exact h.2
  omega
theorem implAnswers_ev (form : List Field) (ans : List Answer) (hl : form.length ≤ 9223372036854775807) (hf : ∀ f ∈ form, fine f) (hla : ans.length ≤ 9223372036854775807) (ha : ∀ a ∈ ans, fineA a) :
  Ev (fun k => impl_IsValidAnswers.f k form ans) (ansB form ans) := by
 have h := ev_all (L := fun k (s : Int) i => impl_IsValidAnswers.l0 k form s ans (ans.length : Int) i) ans.length (lastI form ans) (ansAt form ans) false (formB form)
  (fun _ => Ev.step (fun k => rfl) (ev_neg (by omega) (Ev.bind (implForm_ev form hl hf) (ev_now rfl)))) ?h1 ?h2
 case h1 =>
  intro i hi _ hc y hy
  simp only [ansAt, Bool.and_eq_true, decide_eq_true_eq] at hc
  have hfa := ha _ (List.getElem_mem hi)
  rw [← getD_in hi z51] at hfa
  refine Ev.step (fun k => rfl) (ev_pos (by omega) (ev_pos (by omega) (ev_pos (by omega) ?_)))
  simp only [rd_T51, Int.toNat_natCast, fieldOf_eq]
  refine ev_some (ev_neg (by omega) (Ev.bind (isText_ev _ hfa.2) (ev_pos hc.2 ?_)))
  rw [wrap_succ hi hla]
  rw [lastI_succ] at hy
  exact hy
 case h2 =>
  intro i hi _ hc
  have hfa := ha _ (List.getElem_mem hi)
  rw [← getD_in hi z51] at hfa
  refine Ev.step (fun k => rfl) (ev_pos (by omega) (ev_pos (by omega) (ev_pos (by omega) ?_)))
  simp only [rd_T51, Int.toNat_natCast, fieldOf_eq]
  refine ev_some (ev_ite (fun _ => ev_now rfl) (fun h1 => Ev.bind (isText_ev _ hfa.2) (ev_neg ?_ (ev_now rfl))))
  intro h2
  have : ansAt form ans i = true := by
   simp only [ansAt, Bool.and_eq_true, decide_eq_true_eq]
   exact ⟨by omega, h2⟩
  rw [this] at hc; cases hc
 refine ev_cast h ?_
 unfold ansB
 cases (List.range ans.length).all (ansAt form ans) <;> simp
theorem specAnswers_ev (form : List Field) (ans : List Answer) (hl : form.length ≤ 9223372036854775807) (hf : ∀ f ∈ form, fine f) (hla : ans.length ≤ 9223372036854775807) (ha : ∀ a ∈ ans, fineA a) :
  Ev (fun k => spec_l23Answers.f k form ans) (ansB form ans) := by
 unfold spec_l23Answers.f
 refine Ev.bind (specForm_ev form hl hf) ?_
 unfold ansB
 have stop : ∀ b, b = false → Ev (fun k => spec_l23Answers.j0 k form ans true) b := fun b hb => hb ▸ Ev.step (fun k => rfl) (ev_now rfl)
 refine ev_ite (fun h1 => ?_) (fun h1 => stop _ (by simp [h1]))
 rw [h1, Bool.true_and]
 by_cases h2 : (ans.length : Int) > (form.length : Int)
 ·rw [decide_eq_true h2]
  refine stop _ ?_
  rw [Bool.eq_false_iff]
  intro h
  have := ans_short h
  omega
 rw [decide_eq_false h2]
 refine Ev.step (fun k => rfl) ?_
 simp only [spec_l23Answers.j0]
 refine ev_neg (by simp) ?_
 have h := ev_all (L := fun k (s : Int) i => spec_l23Answers.l0 k form ans s i) ans.length (lastI form ans) (ansAt form ans) false true
  (fun _ => Ev.step (fun k => rfl) (ev_neg (by omega) (ev_now rfl))) ?h1 ?h2
 case h1 =>
  intro i hi _ hc y hy
  simp only [ansAt, Bool.and_eq_true, decide_eq_true_eq] at hc
  have hfa := ha _ (List.getElem_mem hi)
  rw [← getD_in hi z51] at hfa
  refine Ev.step (fun k => rfl) (ev_pos (by omega) (ev_pos (by omega) ?_))
  simp only [rd_T51, Int.toNat_natCast]
  refine Ev.bind (l23Find_ev form _ hl) (ev_neg (by omega) (Ev.bind (l21Text_ev _ hfa.2) (ev_pos hc.2 ?_)))
  rw [wrap_succ hi hla]
  rw [lastI_succ] at hy
  exact hy
 case h2 =>
  intro i hi _ hc
  have hfa := ha _ (List.getElem_mem hi)
  rw [← getD_in hi z51] at hfa
  refine Ev.step (fun k => rfl) (ev_pos (by omega) (ev_pos (by omega) ?_))
  simp only [rd_T51, Int.toNat_natCast]
  refine Ev.bind (l23Find_ev form _ hl) (ev_ite (fun _ => ev_now rfl) (fun h1 => Ev.bind (l21Text_ev _ hfa.2) (ev_neg ?_ (ev_now rfl))))
  intro h2
  have : ansAt form ans i = true := by
   simp only [ansAt, Bool.and_eq_true, decide_eq_true_eq]
   exact ⟨by omega, h2⟩
  rw [this] at hc; cases hc
 refine ev_cast h ?_
 cases (List.range ans.length).all (ansAt form ans) <;> rfl
end Go.Proofs.YtiaiohoadefgjaaDoor.X
set_option linter.unusedVariables false
set_option linter.unusedSimpArgs false
namespace Go.Proofs.YtiaiohoadefgjaaDoor.X
open Go.RowKit Go.Proofs.YtiaiohoadefgjaaDoorW.PrintWords Go.Proofs.YtiaiohoadefgjaaDoor.E
def SmA (x : Answer) : Prop := x.f0.size ≤ 10 ∧ x.f1.size ≤ 10
def ans10 : List ByteArray := [(⟨#[121, 101, 115]⟩ : ByteArray), (⟨#[110, 111]⟩ : ByteArray), (⟨#[51]⟩ : ByteArray), (⟨#[114, 101, 100]⟩ : ByteArray), (⟨#[99, 108, 97, 121]⟩ : ByteArray), (⟨#[]⟩ : ByteArray), (⟨#[45, 53]⟩ : ByteArray), (⟨#[49, 50]⟩ : ByteArray), (⟨#[48, 55]⟩ : ByteArray), (⟨#[49, 48, 48, 48, 48, 48, 48]⟩ : ByteArray)]
theorem ans10_sz : ∀ s ∈ ans10, s.size ≤ 10 := by
 intro s hs
 unfold ans10 at hs
 simp only [List.mem_cons, List.not_mem_nil, or_false] at hs
 rcases hs with rfl | rfl | rfl | rfl | rfl | rfl | rfl | rfl | rfl | rfl <;> decide
def ans3 : List ByteArray := [(⟨#[121, 101, 115]⟩ : ByteArray), (⟨#[121, 101, 115]⟩ : ByteArray), (⟨#[110, 111]⟩ : ByteArray)]
theorem ans3_sz : ∀ s ∈ ans3, s.size ≤ 10 := by
 intro s hs
 unfold ans3 at hs
 simp only [List.mem_cons, List.not_mem_nil, or_false] at hs
 rcases hs with rfl | rfl | rfl <;> decide
theorem smA_app {L : List Answer} (h : ∀ x ∈ L, SmA x) {x : Answer} (hx : SmA x) : ∀ y ∈ L ++ [x], SmA y := fun y hy => (List.mem_append.1 hy).elim (h y) (fun h2 => by rw [List.mem_singleton.1 h2]; exact hx)
theorem ansLoop_tot {l : List Int} {form : List Field} (hl : form.length ≤ 6) (hf : ∀ f ∈ form, f.f0.size ≤ 10) : ∀ (m i : Nat) (L : List Answer) (a s : Int), i + m = form.length → L.length ≤ i → (∀ x ∈ L, SmA x) → Cu l a → a + 10 * m ≤ 3000 →
  ∃ L' a' s', Ev (fun k => spec_l1Cur_answers.l0 k form L (i : Int) l a s) (L', a', s') ∧ L'.length ≤ 7 ∧ (∀ x ∈ L', SmA x) ∧ Cu l a' ∧ a' ≤ 3010 := by
 intro m
 induction m with
 | zero =>
  intro i L a s hi hL hs hc hb
  obtain ⟨v, a1, s1, e1, hv, c1, b1⟩ := pick_in s 16 (by omega) hc (by omega)
  by_cases k0 : v = 0
  ·have hx : SmA ⟨(⟨#[107, 105, 110, 100]⟩ : ByteArray), (⟨#[120]⟩ : ByteArray)⟩ := ⟨by decide, by decide⟩
   exact ⟨_, a1, s1, Ev.step (fun k => rfl) (ev_neg (by omega) (ev_bind0 e1 (ev_pos k0 (ev_pos (by omega) (ev_now rfl))))), by rw [List.length_append, List.length_singleton]; omega, smA_app hs hx, c1, by omega⟩
  by_cases k1 : v = 1
  ·by_cases c : (L.length : Int) > 0
   ·have hx : SmA ⟨(rd_T51 L 0).f0, (⟨#[97, 10]⟩ : ByteArray)⟩ := by
     refine ⟨?_, by show (2 : Nat) ≤ 10; omega⟩
     unfold rd_T51
     rw [getD_in (show (0 : Int).toNat < L.length by omega)]
     exact (hs _ (List.getElem_mem _)).1
    refine ⟨_, a1, s1, Ev.step (fun k => rfl) (ev_neg (by omega) (ev_bind0 e1 (ev_neg k0 (ev_pos k1 (ev_pos c (ev_pos (by omega) (ev_now rfl))))))), by rw [List.length_set]; omega, fun y hy => ?_, c1, by omega⟩
    rcases List.mem_or_eq_of_mem_set hy with h1 | h1
    ·exact hs y h1
    ·rw [h1]; exact hx
   ·exact ⟨L, a1, s1, Ev.step (fun k => rfl) (ev_neg (by omega) (ev_bind0 e1 (ev_neg k0 (ev_pos k1 (ev_neg c (ev_now rfl)))))), by omega, hs, c1, by omega⟩
  ·exact ⟨L, a1, s1, Ev.step (fun k => rfl) (ev_neg (by omega) (ev_bind0 e1 (ev_neg k0 (ev_neg k1 (ev_now rfl))))), by omega, hs, c1, by omega⟩
 | succ m ih =>
  intro i L a s hi hL hs hc hb
  have hw : wrap64 ((i : Int) + 1) = ((i + 1 : Nat) : Int) := wrap_succ (n := form.length) (by omega) (by omega)
  have hF : (rd_T54 form (i : Int)).f0.size ≤ 10 := by
   unfold rd_T54
   rw [Int.toNat_natCast, getD_in (show i < form.length by omega)]
   exact hf _ (List.getElem_mem _)
  obtain ⟨o, a1, s1, e1, c1, b1⟩ := one_tot s 4 hc (by omega)
  cases hob : o
  case true =>
   obtain ⟨L', a', s', g1, g2⟩ := ih (i + 1) L a1 s1 (by omega) (by omega) hs c1 (by omega)
   rw [← hw] at g1
   exact ⟨L', a', s', Ev.step (fun k => rfl) (ev_pos (by omega) (ev_bind0 e1 (ev_pos hob g1))), g2⟩
  case false =>
   obtain ⟨t, a2, s2, e2, ht, c2, b2⟩ := of_tot s1 ans10 (by decide) c1 (by omega)
   have hno : ¬ o = true := by rw [hob]; simp
   have ht' := ans10_sz t ht
   have push : ∀ (u : ByteArray) (a' s' : Int), u.size ≤ 10 → Cu l a' → a' + 10 * m ≤ 3000 → ∃ L' a2 s2, Ev (fun k => if L.length < 4398046511104 then (spec_l1Cur_answers.l0 k form (L ++ [(⟨(rd_T54 form (i : Int)).f0, u⟩ : Answer)]) (wrap64 ((i : Int) + 1)) l a' s') else none) (L', a2, s2) ∧ L'.length ≤ 7 ∧ (∀ x ∈ L', SmA x) ∧ Cu l a2 ∧ a2 ≤ 3010 := by
    intro u a' s' hu hc' hb'
    obtain ⟨L', a3, s3, g1, g2⟩ := ih (i + 1) (L ++ [(⟨(rd_T54 form (i : Int)).f0, u⟩ : Answer)]) a' s' (by omega) (by rw [List.length_append, List.length_singleton]; omega) (smA_app hs ⟨hF, hu⟩) hc' hb'
    rw [← hw] at g1
    exact ⟨L', a3, s3, ev_pos (by omega) g1, g2⟩
   by_cases k4 : (rd_T54 form (i : Int)).f1 = 4
   ·obtain ⟨o2, a3, s3, e3, c3, b3⟩ := one_tot s2 4 c2 (by omega)
    by_cases ho2 : o2 = true
    ·obtain ⟨L', a', s', g1, g2⟩ := push t a3 s3 ht' c3 (by omega)
     exact ⟨L', a', s', Ev.step (fun k => rfl) (ev_pos (by omega) (ev_bind0 e1 (ev_neg hno (ev_bind0 e2 (ev_pos (by omega) (ev_pos k4 (ev_bind0 e3 (ev_pos ho2 g1)))))))), g2⟩
    ·obtain ⟨t2, a4, s4, e4, ht2, c4, b4⟩ := of_tot s3 ans3 (by decide) c3 (by omega)
     obtain ⟨L', a', s', g1, g2⟩ := push t2 a4 s4 (ans3_sz t2 ht2) c4 (by omega)
     exact ⟨L', a', s', Ev.step (fun k => rfl) (ev_pos (by omega) (ev_bind0 e1 (ev_neg hno (ev_bind0 e2 (ev_pos (by omega) (ev_pos k4 (ev_bind0 e3 (ev_neg ho2 (ev_bind0 e4 g1))))))))), g2⟩
   ·obtain ⟨L', a', s', g1, g2⟩ := push t a2 s2 ht' c2 (by omega)
    exact ⟨L', a', s', Ev.step (fun k => rfl) (ev_pos (by omega) (ev_bind0 e1 (ev_neg hno (ev_bind0 e2 (ev_pos (by omega) (ev_neg k4 g1)))))), g2⟩
theorem answers_tot {l : List Int} {a : Int} (s : Int) {form : List Field} (hl : form.length ≤ 6) (hf : ∀ f ∈ form, f.f0.size ≤ 10) (hc : Cu l a) (hb : a ≤ 2000) :
  ∃ L' a' s', Ev (fun k => spec_l1Cur_answers.f k l a s form) (L', a', s') ∧ L'.length ≤ 7 ∧ (∀ x ∈ L', SmA x) ∧ Cu l a' ∧ a' ≤ 3010 :=
 ansLoop_tot hl hf form.length 0 [] a s (by omega) (by simp) (by simp) hc (by omega)
end Go.Proofs.YtiaiohoadefgjaaDoor.X
set_option linter.unusedVariables false
set_option linter.unusedSimpArgs false
namespace Go.Proofs.YtiaiohoadefgjaaDoor.X
open Go.RowKit Go.Proofs.YtiaiohoadefgjaaDoorW.PrintWords Go.Proofs.YtiaiohoadefgjaaDoor.E
theorem ba_inj {a b : ByteArray} (h : a.toList = b.toList) : a = b := by
 rw [Lib.toList_data, Lib.toList_data] at h
 exact ByteArray.ext (Array.toList_inj.1 h)
abbrev zA : Answer := z51
abbrev pos (form : List Field) (ans : List Answer) (i : Nat) : Int := fidx form (ans.getD i zA).f0
structure Valid (form : List Field) (ans : List Answer) : Prop where
 len : form.length ≤ 10
 name : ∀ j, j < form.length → fidx form (form.getD j zF).f0 = (j : Int)
 up : ∀ i, i < ans.length → lastI form ans i < pos form ans i
 fld : ∀ j, j < form.length → fieldB form j = true
 txt : ∀ i, i < ans.length → textB (ans.getD i zA).f1 = true
theorem valid_of {form : List Field} {ans : List Answer} (h : ansB form ans = true) : Valid form ans := by
 unfold ansB formB at h
 rw [Bool.and_eq_true, Bool.and_eq_true, decide_eq_true_eq, all_range, all_range] at h
 obtain ⟨⟨h1, h2⟩, h3⟩ := h
 refine ⟨by omega, fun j hj => ?_, fun i hi => ?_, h2, fun i hi => ?_⟩
 ·have := h2 j hj
  unfold fieldB at this
  simp only [Bool.and_eq_true, decide_eq_true_eq] at this
  exact this.1.1.1.2
 ·have := h3 i hi
  unfold ansAt at this
  rw [Bool.and_eq_true, decide_eq_true_eq] at this
  exact this.1
 ·have := h3 i hi
  unfold ansAt at this
  rw [Bool.and_eq_true] at this
  exact this.2
theorem fidx_congr (form : List Field) {a b : ByteArray} (h : a.toList = b.toList) : fidx form a = fidx form b := by rw [ba_inj h]
theorem fidx_at {form : List Field} {n : ByteArray} {j : Nat} (h : fidx form n = (j : Int)) : j < form.length ∧ (form.getD j zF).f0 = n := by
 rcases idxG_spec (fun x : Field => x.f0.toList == n.toList) form 0 with ⟨h1, _⟩ | ⟨j', x, h1, h2, h3, h4, _⟩
 ·have : fidx form n = -1 := h1
  omega
 ·have e : fidx form n = ((0 + j' : Nat) : Int) := h2
  obtain rfl : j' = j := by omega
  refine ⟨h1, ?_⟩
  rw [List.getD_eq_getElem?_getD, h3, Option.getD_some]
  exact ba_inj (by simpa using h4)
theorem pos_low {form : List Field} {ans : List Answer} (V : Valid form ans) : ∀ i, i ≤ ans.length → -1 ≤ lastI form ans i ∧ ∀ j, j < i → pos form ans j ≤ lastI form ans i := by
 intro i
 induction i with
 | zero => intro _; exact ⟨by simp [lastI], fun j hj => by omega⟩
 | succ i ih =>
  intro hi
  obtain ⟨h1, h2⟩ := ih (by omega)
  have h3 := V.up i (by omega)
  rw [lastI_succ]
  refine ⟨by show -1 ≤ pos form ans i; omega, fun j hj => ?_⟩
  show pos form ans j ≤ pos form ans i
  by_cases e : j = i
  ·rw [e]; exact Int.le_refl _
  ·have := h2 j (by omega)
   omega
theorem pos_lt {form : List Field} {ans : List Answer} (V : Valid form ans) {i j : Nat} (hij : i < j) (hj : j < ans.length) : pos form ans i < pos form ans j := by
 have h1 := (pos_low V j (by omega)).2 i hij
 have h2 := V.up j hj
 omega
theorem pos_in {form : List Field} {ans : List Answer} (V : Valid form ans) {i : Nat} (hi : i < ans.length) : ∃ k : Nat, pos form ans i = (k : Int) ∧ k < form.length ∧ (form.getD k zF).f0 = (ans.getD i zA).f0 := by
 have h1 := (pos_low V i (by omega)).1
 have h2 := V.up i hi
 have h3 : fidx form (ans.getD i zA).f0 = (((pos form ans i).toNat : Nat) : Int) := by
  have : fidx form (ans.getD i zA).f0 = pos form ans i := rfl
  omega
 exact ⟨_, h3, fidx_at h3⟩
def look (ans : List Answer) (n : ByteArray) : Option Answer := ans.find? (fun x => x.f0.toList == n.toList)
end Go.Proofs.YtiaiohoadefgjaaDoor.X
set_option linter.unusedVariables false
set_option linter.unusedSimpArgs false
namespace Go.Proofs.YtiaiohoadefgjaaDoor.X
open Go.RowKit Go.Proofs.YtiaiohoadefgjaaDoorW.PrintWords Go.Proofs.YtiaiohoadefgjaaDoor.E
def txtOf (ans : List Answer) (n : ByteArray) : ByteArray := match look ans n with
 | some x => x.f1
 | none => ⟨#[]⟩
def visAt (form : List Field) (ans : List Answer) (V : List Bool) (i : Nat) : Bool := if (form.getD i zF).f6.toList = ([] : List UInt8) then true else (if rdOf false V (fidx form (form.getD i zF).f6) = true then ((txtOf ans (form.getD i zF).f6).toList == ([121, 101, 115] : List UInt8)) else false)
def visL (form : List Field) (ans : List Answer) : Nat → List Bool
 | 0 => []
 | i + 1 => visL form ans i ++ [visAt form ans (visL form ans i) i]
theorem visL_length (form : List Field) (ans : List Answer) : ∀ i, (visL form ans i).length = i
 | 0 => rfl
 | i + 1 => by rw [visL, List.length_append, visL_length form ans i, List.length_singleton]
theorem if_at {form : List Field} {ans : List Answer} (V : Valid form ans) {i : Nat} (hi : i < form.length) (h : ¬ (form.getD i zF).f6.toList = ([] : List UInt8)) : ∃ q : Nat, fidx form (form.getD i zF).f6 = (q : Int) ∧ q < i := by
 have h1 := V.fld i hi
 unfold fieldB at h1
 simp only [Bool.and_eq_true] at h1
 have h2 := h1.1.2
 unfold ifOk at h2
 rw [Bool.or_eq_true, Bool.and_eq_true, decide_eq_true_eq] at h2
 rcases h2 with h2 | h2
 ·exact absurd (by simpa using h2) h
 ·exact ⟨(fidx form (form.getD i zF).f6).toNat, by omega, by omega⟩
theorem answerOf_eq (ans : List Answer) (n : ByteArray) : ∃ b, impl_answerOf.f ans n = some (txtOf ans n, b) ∧ b = (look ans n).isSome := by
 unfold impl_answerOf.f txtOf look
 cases ans.find? (fun y => y.f0.toList == n.toList) with
 | none => exact ⟨_, rfl, rfl⟩
 | some a => exact ⟨_, rfl, rfl⟩
theorem l23Text_ev (ans : List Answer) (n : ByteArray) (hl : ans.length ≤ 9223372036854775807) : Ev (fun k => spec_l23Text.f k ans n) (txtOf ans n, (look ans n).isSome) := by
 have h := ev_walk (L := fun k i => spec_l23Text.l0 k ans n i) (G := fun i r => ((match look r n with | some x => x.f1 | none => (⟨#[]⟩ : ByteArray)), (look r n).isSome)) ans (Ev.step (fun k => rfl) (ev_neg (by omega) (ev_now rfl))) ?step
 case step =>
  intro i x r hi hd hx hk
  refine Ev.step (fun k => rfl) (ev_pos (by omega) (ev_pos (by omega) ?_))
  simp only [rd_T51, Int.toNat_natCast, hx]
  by_cases c : x.f0.toList = n.toList
  ·exact ev_pos c (ev_now (by simp [look, c]))
  ·refine ev_neg c ?_
   rw [wrap_succ hi hl]
   have e : look (x :: r) n = look r n := by unfold look; rw [List.find?_cons_of_neg (by simpa using c)]
   rw [e]
   exact hk
 exact h
theorem implVis_ev (form : List Field) (ans : List Answer) (V : Valid form ans) : Ev (fun k => impl_visible.f k form ans) (visL form ans form.length) := by
 have hlen := V.len
 have h := ev_all (L := fun k (s : List Bool) i => impl_visible.l0 k form ans s form (form.length : Int) i) form.length (fun i => visL form ans i ++ List.replicate (form.length - i) false) (fun _ => true) [] (visL form ans form.length) ?h0 ?h1 (fun i hi _ hc => nomatch hc)
 case h0 =>
  intro _
  refine Ev.step (fun k => rfl) (ev_neg (by omega) (ev_now ?_))
  rw [Nat.sub_self, List.replicate_zero, List.append_nil]
 case h1 =>
  intro i hi _ _ y hy
  have hvl := visL_length form ans i
  have hsl : (visL form ans i ++ List.replicate (form.length - i) false).length = form.length := by rw [List.length_append, hvl, List.length_replicate]; omega
  have hset : ∀ b, (visL form ans i ++ List.replicate (form.length - i) false).set i b = (visL form ans i ++ [b]) ++ List.replicate (form.length - (i + 1)) false := by
   intro b
   rw [List.set_append_right _ _ (by omega), hvl, Nat.sub_self, show form.length - i = (form.length - (i + 1)) + 1 by omega, List.replicate_succ, List.set_cons_zero, List.append_assoc]
   rfl
  have hgo : ∀ b, b = visAt form ans (visL form ans i) i → Ev (fun k => impl_visible.l0 k form ans ((visL form ans i ++ List.replicate (form.length - i) false).set (i : Int).toNat b) form (form.length : Int) (wrap64 ((i : Int) + 1))) y := by
   intro b hb
   rw [Int.toNat_natCast, hset, wrap_succ hi (by omega), hb]
   exact hy
  refine Ev.step (fun k => rfl) (ev_pos (by omega) (ev_pos (by omega) (ev_pos (by omega) ?_)))
  simp only [rd_T54, Int.toNat_natCast]
  by_cases c : (form.getD i zF).f6.toList = ([] : List UInt8)
  ·refine ev_pos c (ev_pos (by rw [hsl]; omega) ?_)
   exact hgo true (by unfold visAt; rw [if_pos c])
  ·refine ev_neg c ?_
   obtain ⟨b, hb, _⟩ := answerOf_eq ans (form.getD i zF).f6
   obtain ⟨q, hq, hqi⟩ := if_at V hi c
   refine ev_bind0 hb (ev_bind0 (fieldOf_eq _ _) ?_)
   rw [show fidx form (form.getD i zF).f6 = (q : Int) from hq]
   have hr : rdOf false (visL form ans i ++ List.replicate (form.length - i) false) (q : Int) = rdOf false (visL form ans i) (q : Int) := by
    unfold rdOf
    rw [Int.toNat_natCast, List.getD_eq_getElem?_getD, List.getD_eq_getElem?_getD, List.getElem?_append_left (by omega)]
   rw [hr]
   refine ev_pos (by omega) (ev_pos (by rw [hsl]; omega) ?_)
   by_cases d : rdOf false (visL form ans i) (q : Int) = true
   ·refine ev_pos d (ev_pos (by rw [hsl]; omega) ?_)
    exact hgo _ (by unfold visAt; rw [if_neg c, hq, if_pos d])
   ·refine ev_neg d (ev_pos (by rw [hsl]; omega) ?_)
    exact hgo false (by unfold visAt; rw [if_neg c, hq, if_neg d])
 unfold impl_visible.f
 rw [Int.toNat_natCast]
 refine ev_pos (by omega) (ev_pos (by omega) ?_)
 rw [if_pos (by rw [all_range]; intro i hi; rfl)] at h
 exact h
theorem specVis_ev (form : List Field) (ans : List Answer) (V : Valid form ans) (hla : ans.length ≤ 9223372036854775807) : Ev (fun k => spec_l23Visible.f k form ans) (visL form ans form.length) := by
 have hlen := V.len
 have h := ev_all (L := fun k (s : List Bool) i => spec_l23Visible.l0 k form ans s i) form.length (fun i => visL form ans i) (fun _ => true) [] (visL form ans form.length) ?h0 ?h1 (fun i hi _ hc => nomatch hc)
 case h0 =>
  intro _
  exact Ev.step (fun k => rfl) (ev_neg (by omega) (ev_now rfl))
 case h1 =>
  intro i hi _ _ y hy
  have hvl := visL_length form ans i
  have hgo : ∀ b, b = visAt form ans (visL form ans i) i → Ev (fun k => spec_l23Visible.l0 k form ans (visL form ans i ++ [b]) (wrap64 ((i : Int) + 1))) y := by
   intro b hb
   rw [wrap_succ hi (by omega), hb]
   exact hy
  refine Ev.step (fun k => rfl) (ev_pos (by omega) (ev_pos (by omega) ?_))
  simp only [rd_T54, Int.toNat_natCast]
  by_cases c : (form.getD i zF).f6.toList = ([] : List UInt8)
  ·refine ev_pos c (ev_pos (by rw [hvl]; omega) ?_)
   exact hgo true (by unfold visAt; rw [if_pos c])
  ·refine ev_neg c ?_
   obtain ⟨q, hq, hqi⟩ := if_at V hi c
   refine Ev.bind (l23Text_ev ans _ hla) (Ev.bind (l23Find_ev form _ (by omega)) ?_)
   rw [show fidx form (form.getD i zF).f6 = (q : Int) from hq]
   refine ev_pos (by omega) (ev_pos (by rw [hvl]; omega) ?_)
   by_cases d : rdOf false (visL form ans i) (q : Int) = true
   ·refine ev_pos d (ev_pos (by rw [hvl]; omega) ?_)
    exact hgo _ (by unfold visAt; rw [if_neg c, hq, if_pos d])
   ·refine ev_neg d (ev_pos (by rw [hvl]; omega) ?_)
    exact hgo false (by unfold visAt; rw [if_neg c, hq, if_neg d])
 unfold spec_l23Visible.f
 rw [if_pos (by rw [all_range]; intro i hi; rfl)] at h
 exact h
end Go.Proofs.YtiaiohoadefgjaaDoor.X
set_option linter.unusedVariables false
set_option linter.unusedSimpArgs false
namespace Go.Proofs.YtiaiohoadefgjaaDoor.X
open Go.RowKit Go.Proofs.YtiaiohoadefgjaaDoorW.PrintWords Go.Proofs.YtiaiohoadefgjaaDoor.E
def numB (n : Int) : ByteArray := ⟨(Lib.itoa n).toArray⟩
def decB (u : Nat) : ByteArray := ⟨(Lib.decDigits u).toArray⟩
theorem digit_fin : ∀ i : Fin 10, (⟨#[48, 49, 50, 51, 52, 53, 54, 55, 56, 57]⟩ : ByteArray).extract i.val (i.val + 1) = ⟨#[UInt8.ofNat (48 + i.val)]⟩ := by decide +kernel
theorem digit_at (i : Int) (j : Int) (h0 : 0 ≤ i) (h1 : i < 10) (hj : j = i + 1) : (⟨#[48, 49, 50, 51, 52, 53, 54, 55, 56, 57]⟩ : ByteArray).extract i.toNat j.toNat = ⟨#[UInt8.ofNat (48 + i.toNat)]⟩ := by
 rw [show j.toNat = i.toNat + 1 by omega]
 exact digit_fin ⟨i.toNat, by omega⟩
theorem ba_append (l m : List UInt8) : (⟨l.toArray⟩ : ByteArray) ++ (⟨m.toArray⟩ : ByteArray) = ⟨(l ++ m).toArray⟩ := by
 apply ByteArray.ext
 rw [ByteArray.data_append]
 simp
theorem ba_size (l : List UInt8) : (⟨l.toArray⟩ : ByteArray).size = l.length := rfl
theorem decB_size (u : Nat) (h : u < 18446744073709551616) : (decB u).size ≤ 20 := by
 unfold decB
 rw [ba_size, Lib.decDigits_length]
 exact Lib.nDigits_le20 u h
theorem l1Num_nat : ∀ (u : Nat), u ≤ 9223372036854775807 → Ev (fun k => spec_l1Num.f k (u : Int)) (decB u) := by
 intro u
 induction u using Nat.strongRecOn with
 | _ u ih =>
  intro hu
  refine Ev.step (fun k => rfl) (ev_neg (by omega) ?_)
  by_cases h : u < 10
  ·have hw : wrap64 ((u : Int) + 1) = (u : Int) + 1 := wrap_id (by omega) (by omega)
   rw [hw]
   refine ev_pos (by omega) (ev_pos (by omega) (ev_pos (by omega) (ev_pos (by omega) (ev_now ?_))))
   rw [digit_at (u : Int) _ (by omega) (by omega) rfl]
   unfold decB
   rw [Lib.decDigits, dif_pos h, Int.toNat_natCast]
  ·refine ev_neg (by omega) ?_
   have hd : Int.tdiv (u : Int) 10 = ((u / 10 : Nat) : Int) := by rw [Int.tdiv_eq_ediv_of_nonneg (by omega)]; omega
   have hm : Int.tmod (u : Int) 10 = ((u % 10 : Nat) : Int) := by rw [Int.tmod_eq_emod_of_nonneg (by omega)]; omega
   have hw : wrap64 ((u / 10 : Nat) : Int) = ((u / 10 : Nat) : Int) := wrap_id (by omega) (by omega)
   have hw2 : wrap64 (((u % 10 : Nat) : Int) + 1) = ((u % 10 : Nat) : Int) + 1 := wrap_id (by omega) (by omega)
   rw [hd, hw, hm, hw2]
   refine Ev.bind (ih (u / 10) (by omega) (by omega)) ?_
   rw [digit_at ((u % 10 : Nat) : Int) _ (by omega) (by omega) rfl]
   have hs := decB_size (u / 10) (by omega)
   have h1 : (⟨#[UInt8.ofNat (48 + ((u % 10 : Nat) : Int).toNat)]⟩ : ByteArray).size = 1 := rfl
   refine ev_pos (by omega) (ev_pos (by omega) (ev_pos (by omega) (ev_pos (by omega) (ev_now ?_))))
   unfold decB
   rw [show (⟨#[UInt8.ofNat (48 + ((u % 10 : Nat) : Int).toNat)]⟩ : ByteArray) = ⟨[UInt8.ofNat (48 + u % 10)].toArray⟩ by rw [Int.toNat_natCast], ba_append]
   conv => rhs; rw [Lib.decDigits, dif_neg h]
theorem l1Num_ev (n : Int) (h0 : -9223372036854775807 ≤ n) (h1 : n ≤ 9223372036854775807) : Ev (fun k => spec_l1Num.f k n) (numB n) := by
 by_cases hn : n < 0
 ·have hw : wrap64 (-n) = ((n.natAbs : Nat) : Int) := by rw [wrap_id (by omega) (by omega)]; omega
  refine Ev.step (fun k => rfl) (ev_pos hn ?_)
  rw [hw]
  have hs := decB_size n.natAbs (by omega)
  refine Ev.bind (l1Num_nat _ (by omega)) (ev_pos (by omega) (ev_now ?_))
  unfold numB decB
  rw [show (⟨#[45]⟩ : ByteArray) = ⟨[45].toArray⟩ from rfl, ba_append, Lib.itoa, if_pos hn]
  rfl
 ·obtain ⟨u, rfl⟩ : ∃ u : Nat, n = u := ⟨n.toNat, by omega⟩
  refine ev_cast (l1Num_nat u (by omega)) ?_
  unfold numB decB
  rw [Lib.itoa, if_neg hn, Int.toNat_natCast]
end Go.Proofs.YtiaiohoadefgjaaDoor.X
set_option linter.unusedVariables false
set_option linter.unusedSimpArgs false
namespace Go.Proofs.YtiaiohoadefgjaaDoor.X
open Go.RowKit Go.Proofs.YtiaiohoadefgjaaDoorW.PrintWords Go.Proofs.YtiaiohoadefgjaaDoor.E
theorem dec_digit : ∀ (u : Nat), ∀ c ∈ Lib.decDigits u, 48 ≤ c.toNat ∧ c.toNat ≤ 57 := by
 intro u
 induction u using Nat.strongRecOn with
 | _ u ih =>
  intro c hc
  have one : ∀ d, d < 10 → 48 ≤ (UInt8.ofNat (48 + d)).toNat ∧ (UInt8.ofNat (48 + d)).toNat ≤ 57 := by
   intro d hd
   have : ∀ j : Fin 10, 48 ≤ (UInt8.ofNat (48 + j.val)).toNat ∧ (UInt8.ofNat (48 + j.val)).toNat ≤ 57 := by decide +kernel
   exact this ⟨d, hd⟩
  rw [Lib.decDigits] at hc
  split at hc
  ·rw [List.mem_singleton.1 hc]; exact one u (by omega)
  ·rcases List.mem_append.1 hc with h | h
   ·exact ih (u / 10) (by omega) c h
   ·rw [List.mem_singleton.1 h]; exact one _ (by omega)
theorem dec_one (d : Nat) (hd : d < 10) : (UInt8.ofNat (48 + d)).toNat = 48 + d := by
 have : ∀ j : Fin 10, (UInt8.ofNat (48 + j.val)).toNat = 48 + j.val := by decide +kernel
 exact this ⟨d, hd⟩
theorem dec_len : ∀ (k u : Nat), u < 10 ^ (k + 1) → 1 ≤ (Lib.decDigits u).length ∧ (Lib.decDigits u).length ≤ k + 1 := by
 intro k
 induction k with
 | zero =>
  intro u hu
  rw [Lib.decDigits, dif_pos (by simpa using hu)]
  simp
 | succ k ih =>
  intro u hu
  rw [Lib.decDigits]
  split
  ·simp
  ·have := ih (u / 10) (by rw [Nat.pow_succ] at hu; omega)
   rw [List.length_append, List.length_singleton]
   omega
def dv (l : List UInt8) : Int := l.foldl (fun a c => 10 * a + ((c.toNat : Int) - 48)) 0
theorem dv_snoc (l : List UInt8) (c : UInt8) : dv (l ++ [c]) = 10 * dv l + ((c.toNat : Int) - 48) := by unfold dv; rw [List.foldl_append]; rfl
theorem dv_dec : ∀ (u : Nat), dv (Lib.decDigits u) = (u : Int) := by
 intro u
 induction u using Nat.strongRecOn with
 | _ u ih =>
  rw [Lib.decDigits]
  split
  ·rename_i h
   show dv ([] ++ [UInt8.ofNat (48 + u)]) = _
   rw [dv_snoc, dec_one u h]
   simp [dv]
   omega
  ·rw [dv_snoc, ih (u / 10) (by omega), dec_one _ (by omega)]
   omega
theorem pu_snoc : ∀ (l : List UInt8) (acc m : Nat) (c : UInt8), Lib.parseUint10 acc l = .ok m → m < 1000000000000 → 48 ≤ c.toNat ∧ c.toNat ≤ 57 → Lib.parseUint10 acc (l ++ [c]) = .ok (m * 10 + (c.toNat - 48))
 | [], acc, m, c, h, hm, hc => by
  simp only [Lib.parseUint10] at h
  injection h with h
  subst h
  simp only [List.nil_append, Lib.parseUint10]
  rw [if_pos hc, if_neg (by omega), if_neg (by omega)]
 | b :: r, acc, m, c, h, hm, hc => by
  simp only [Lib.parseUint10] at h
  simp only [List.cons_append, Lib.parseUint10]
  split at h
  ·rename_i h1
   rw [if_pos h1]
   split at h
   ·cases h
   ·rename_i h2
    rw [if_neg h2]
    split at h
    ·cases h
    ·rename_i h3
     rw [if_neg h3]
     exact pu_snoc r _ m c h hm hc
  ·cases h
theorem pu_dec : ∀ (u : Nat), u < 1000000000000 → Lib.parseUint10 0 (Lib.decDigits u) = .ok u := by
 intro u
 induction u using Nat.strongRecOn with
 | _ u ih =>
  intro hu
  rw [Lib.decDigits]
  split
  ·rename_i h
   have := pu_snoc [] 0 0 (UInt8.ofNat (48 + u)) rfl (by omega) (by rw [dec_one u h]; omega)
   rw [List.nil_append, dec_one u h] at this
   rw [this]
   congr 1
   omega
  ·have := pu_snoc _ 0 (u / 10) (UInt8.ofNat (48 + u % 10)) (ih (u / 10) (by omega) (by omega)) (by omega) (by rw [dec_one _ (by omega)]; omega)
   rw [this, dec_one _ (by omega)]
   congr 1
   omega
theorem dec_ne (u : Nat) : Lib.decDigits u ≠ [] := by
 rw [Lib.decDigits]
 split <;> simp
theorem mag_dec (u : Nat) (hu : u < 1000000000000) : Lib.parseMag (Lib.decDigits u) = .ok u := by
 unfold Lib.parseMag
 rw [if_neg (dec_ne u)]
 exact pu_dec u hu
theorem atoi_itoa (v : Int) (h0 : -999999 ≤ v) (h1 : v ≤ 999999) : Lib.atoiAll (Lib.itoa v) = .ok v := by
 unfold Lib.itoa
 by_cases c : v < 0
 ·rw [if_pos c, Lib.atoiAll_minus, mag_dec _ (by omega)]
  simp only [Lib.signed]
  rw [if_neg (by omega)]
  congr 1
  omega
 ·rw [if_neg c]
  have hm := mag_dec v.toNat (by omega)
  cases hd : Lib.decDigits v.toNat with
  | nil => exact absurd hd (dec_ne _)
  | cons b r =>
   have hb := dec_digit v.toNat b (by rw [hd]; exact List.mem_cons_self ..)
   rw [hd] at hm
   rw [Lib.atoiAll_plain b r (by omega) (by omega), hm]
   simp only [Lib.signless]
   rw [if_neg (by omega)]
   congr 1
   omega
def IsNum (s : ByteArray) : Prop := ∃ v : Int, -999999 ≤ v ∧ v ≤ 999999 ∧ s = numB v
theorem parse_num {v : Int} (h0 : -999999 ≤ v) (h1 : v ≤ 999999) : parseE (numB v) = (v, true) := by
 unfold parseE
 have e : (numB v).data.toList = Lib.itoa v := by unfold numB; simp
 rw [e, atoi_itoa v h0 h1]
 exact if_pos ⟨⟨h0, h1⟩, rfl⟩
theorem parse_not {s : ByteArray} (h : ¬ IsNum s) : parseE s = (0, false) := by
 unfold parseE
 split
 ·rename_i v hv
  split
  ·rename_i hc
   refine absurd ⟨v, hc.1.1, hc.1.2, ?_⟩ h
   unfold numB
   rw [hc.2]
  ·rfl
 ·rfl
theorem bt_list (l : List UInt8) (i : Nat) (h : i < l.length) : bt ⟨l.toArray⟩ (i : Int) = ((l[i]).toNat : Int) := by
 unfold bt
 rw [Int.toNat_natCast]
 rw [dif_pos (show i < (⟨l.toArray⟩ : ByteArray).size from h)]
 rfl
def valT (t : ByteArray) : Nat → Int
 | 0 => 0
 | i + 1 => 10 * valT t i + (bt t (i : Int) - 48)
def digT (t : ByteArray) (i : Nat) : Bool := decide (48 ≤ bt t (i : Int) ∧ bt t (i : Int) ≤ 57)
theorem valT_bound (t : ByteArray) : ∀ i, i ≤ 6 → (∀ j, j < i → digT t j = true) → 0 ≤ valT t i ∧ valT t i < (10 ^ i : Nat)
 | 0, _, _ => by simp [valT]
 | i + 1, hi, h => by
  have h1 := valT_bound t i (by omega) (fun j hj => h j (by omega))
  have h2 := of_decide_eq_true (h i (by omega))
  simp only [valT]
  have : ((10 ^ (i + 1) : Nat) : Int) = 10 * ((10 ^ i : Nat) : Int) := by rw [Nat.pow_succ]; omega
  omega
theorem valT_list (l : List UInt8) : ∀ i, i ≤ l.length → valT ⟨l.toArray⟩ i = dv (l.take i)
 | 0, _ => by simp [valT, dv]
 | i + 1, h => by
  rw [valT, valT_list l i (by omega), bt_list l i (by omega), List.take_succ_eq_append_getElem (by omega), dv_snoc]
def readT (s t : ByteArray) : Int × Bool := if (1 ≤ (t.size : Int) ∧ (t.size : Int) ≤ 6) ∧ (List.range t.size).all (digT t) = true then (if t.size < s.size then (if (numB (-(valT t t.size))).toList = s.toList then (-(valT t t.size), true) else (0, false)) else (if (numB (valT t t.size)).toList = s.toList then (valT t t.size, true) else (0, false))) else (0, false)
theorem read1_ev (s t : ByteArray) : Ev (fun k => spec_l1Read.j1 k s t) (readT s t) := by
 have hin : ∀ a l h : Int, spec_l1In.f a l h = some (decide (l ≤ a ∧ a ≤ h)) := fun a l h => by
  unfold spec_l1In.f
  by_cases h1 : a ≥ l
  ·rw [if_pos h1]; congr 1; simp [h1]
  ·rw [if_neg h1]; congr 1; symm; simp; intro h2; omega
 refine Ev.step (fun k => rfl) (ev_bind0 (hin _ _ _) (ev_ite (fun c => ?_) (fun c => ev_now ?_)))
 case refine_2 =>
  unfold readT
  rw [decide_eq_true_eq] at c
  rw [if_neg (fun h => c h.1)]
 rw [decide_eq_true_eq] at c
 have h := ev_all (L := fun k (n : Int) i => spec_l1Read.l0 k s t n i) t.size (valT t) (digT t) (0, false) (if t.size < s.size then (if (numB (-(valT t t.size))).toList = s.toList then (-(valT t t.size), true) else (0, false)) else (if (numB (valT t t.size)).toList = s.toList then (valT t t.size, true) else (0, false))) ?h0 ?h1 ?h2
 case h0 =>
  intro hd
  have hb := valT_bound t t.size (by omega) hd
  have hp : ((10 ^ t.size : Nat) : Int) ≤ 1000000 := by
   have : 10 ^ t.size ≤ 10 ^ 6 := Nat.pow_le_pow_right (by omega) (by omega)
   omega
  refine Ev.step (fun k => rfl) (ev_neg (by omega) ?_)
  have hw : wrap64 (-(valT t t.size)) = -(valT t t.size) := wrap_id (by omega) (by omega)
  by_cases d : t.size < s.size
  ·rw [if_pos d]
   refine ev_pos (by omega) ?_
   rw [hw]
   refine Ev.bind (l1Num_ev _ (by omega) (by omega)) (ev_ite (fun e => ev_now (by rw [if_pos e])) (fun e => ev_now (by rw [if_neg e])))
  ·rw [if_neg d]
   exact ev_neg (by omega) (Ev.bind (l1Num_ev _ (by omega) (by omega)) (ev_ite (fun e => ev_now (by rw [if_pos e])) (fun e => ev_now (by rw [if_neg e]))))
 case h1 =>
  intro i hi hd hc y hy
  have hb := valT_bound t i (by omega) hd
  have hp : ((10 ^ i : Nat) : Int) ≤ 1000000 := by
   have : 10 ^ i ≤ 10 ^ 6 := Nat.pow_le_pow_right (by omega) (by omega)
   omega
  have hc' := of_decide_eq_true hc
  refine Ev.step (fun k => rfl) (ev_pos (by omega) (ev_pos (by omega) (ev_neg (by omega) (ev_neg (by omega) ?_))))
  rw [wrap_succ hi (by omega), show (bt t (i : Int) - 48) % 256 = bt t (i : Int) - 48 by omega, show wrap64 (10 * valT t i) = 10 * valT t i from wrap_id (by omega) (by omega), show wrap64 (10 * valT t i + (bt t (i : Int) - 48)) = valT t (i + 1) from wrap_id (by omega) (by omega)]
  exact hy
 case h2 =>
  intro i hi _ hc
  have hc' := of_decide_eq_false hc
  refine Ev.step (fun k => rfl) (ev_pos (by omega) (ev_pos (by omega) (ev_ite (fun _ => ev_now rfl) (fun h1 => ev_pos (by omega) (ev_now rfl)))))
 refine ev_cast h ?_
 unfold readT
 by_cases d : (List.range t.size).all (digT t) = true
 ·rw [if_pos d]
  exact (if_pos ⟨c, d⟩).symm
 ·rw [if_neg d, if_neg (fun h => d h.2)]
def tailOf (s : ByteArray) : ByteArray := if (s.size : Int) > 1 ∧ bt s 0 = 45 then s.extract 1 s.size else s
theorem read_ev0 (s : ByteArray) : Ev (fun k => spec_l1Read.f k s) (readT s (tailOf s)) := by
 unfold spec_l1Read.f tailOf
 by_cases c : (s.size : Int) > 1
 ·refine ev_pos c (ev_pos (by omega) ?_)
  by_cases d : bt s 0 = 45
  ·rw [if_pos ⟨c, d⟩, show (bt s 0 == 45) = true by simpa using d]
   exact Ev.step (fun k => rfl) (show Ev (fun k => if 1 ≤ (s.size : Int) then spec_l1Read.j1 k s (s.extract 1 s.size) else none) _ from ev_pos (by omega) (read1_ev s _))
  ·rw [if_neg (fun h => d h.2), show (bt s 0 == 45) = false by simpa using d]
   exact Ev.step (fun k => rfl) (show Ev (fun k => spec_l1Read.j1 k s s) _ from read1_ev s s)
 ·rw [if_neg (fun h => c h.1)]
  exact ev_neg c (Ev.step (fun k => rfl) (show Ev (fun k => spec_l1Read.j1 k s s) _ from read1_ev s s))
theorem digits_all (u : Nat) : (List.range (⟨(Lib.decDigits u).toArray⟩ : ByteArray).size).all (digT ⟨(Lib.decDigits u).toArray⟩) = true := by
 rw [all_range]
 intro i hi
 have hi' : i < (Lib.decDigits u).length := hi
 unfold digT
 rw [bt_list _ i hi']
 have := dec_digit u _ (List.getElem_mem hi')
 exact decide_eq_true (by omega)
theorem val_dec (u : Nat) : valT ⟨(Lib.decDigits u).toArray⟩ (⟨(Lib.decDigits u).toArray⟩ : ByteArray).size = (u : Int) := by
 have := valT_list (Lib.decDigits u) (Lib.decDigits u).length (Nat.le_refl _)
 rw [List.take_length, dv_dec] at this
 exact this
theorem ba_inj2 {a b : ByteArray} (h : a.toList = b.toList) : a = b := by
 rw [Lib.toList_data, Lib.toList_data] at h
 exact ByteArray.ext (Array.toList_inj.1 h)
theorem readT_eq (s : ByteArray) : readT s (tailOf s) = parseE s := by
 by_cases hn : IsNum s
 ·obtain ⟨v, h0, h1, rfl⟩ := hn
  rw [parse_num h0 h1]
  by_cases c : v < 0
  ·have e : numB v = ⟨(45 :: Lib.decDigits v.natAbs).toArray⟩ := by unfold numB Lib.itoa; rw [if_pos c]
   have hl := dec_len 5 v.natAbs (by omega)
   have hsz : (numB v).size = 1 + (Lib.decDigits v.natAbs).length := by rw [e]; show (45 :: Lib.decDigits v.natAbs).length = _; rw [List.length_cons]; omega
   have hb : bt (numB v) 0 = 45 := by rw [e]; exact bt_list (45 :: Lib.decDigits v.natAbs) 0 (by simp)
   have ht : tailOf (numB v) = ⟨(Lib.decDigits v.natAbs).toArray⟩ := by
    unfold tailOf
    rw [if_pos ⟨by omega, hb⟩, hsz, e]
    apply ByteArray.ext
    rw [ByteArray.data_extract]
    apply Array.toList_inj.1
    rw [Array.toList_extract]
    simp [List.extract]
   have hts : (⟨(Lib.decDigits v.natAbs).toArray⟩ : ByteArray).size = (Lib.decDigits v.natAbs).length := rfl
   unfold readT
   rw [ht, if_pos ⟨⟨by omega, by omega⟩, digits_all _⟩, if_pos (by omega), val_dec, show -((v.natAbs : Nat) : Int) = v by omega, if_pos rfl]
  ·have e : numB v = ⟨(Lib.decDigits v.toNat).toArray⟩ := by unfold numB Lib.itoa; rw [if_neg c]
   have hl := dec_len 5 v.toNat (by omega)
   have hts : (⟨(Lib.decDigits v.toNat).toArray⟩ : ByteArray).size = (Lib.decDigits v.toNat).length := rfl
   have ht : tailOf (numB v) = numB v := by
    unfold tailOf
    rw [if_neg]
    rintro ⟨_, hb⟩
    rw [e, show (0 : Int) = ((0 : Nat) : Int) from rfl, bt_list _ 0 (by omega)] at hb
    have := dec_digit v.toNat _ (List.getElem_mem (show 0 < (Lib.decDigits v.toNat).length by omega))
    omega
   unfold readT
   rw [ht]
   have hval : valT (numB v) (numB v).size = v := by rw [e, val_dec]; omega
   have hsz : (numB v).size = (Lib.decDigits v.toNat).length := by rw [e]; rfl
   rw [if_pos ⟨⟨by omega, by omega⟩, by rw [e]; exact digits_all _⟩, if_neg (by omega), hval, if_pos rfl]
 ·rw [parse_not hn]
  unfold readT
  split
  ·rename_i hc
   have hb := valT_bound (tailOf s) (tailOf s).size (by omega) (fun j hj => all_range.1 hc.2 j hj)
   have hp : ((10 ^ (tailOf s).size : Nat) : Int) ≤ 1000000 := by
    have : 10 ^ (tailOf s).size ≤ 10 ^ 6 := Nat.pow_le_pow_right (by omega) (by omega)
    omega
   split
   ·split
    ·rename_i he; exact absurd ⟨_, by omega, by omega, (ba_inj2 he).symm⟩ hn
    ·rfl
   ·split
    ·rename_i he; exact absurd ⟨_, by omega, by omega, (ba_inj2 he).symm⟩ hn
    ·rfl
  ·rfl
theorem l1Read_ev (s : ByteArray) : Ev (fun k => spec_l1Read.f k s) (parseE s) := ev_cast (read_ev0 s) (readT_eq s)
theorem parseInt_eq (s : ByteArray) (h : s.size ≤ 281474976710656) : impl_ParseInt.f s = some (parseE s) := by unfold impl_ParseInt.f; rw [if_pos h]
end Go.Proofs.YtiaiohoadefgjaaDoor.X
set_option linter.unusedVariables false
set_option linter.unusedSimpArgs false
namespace Go.Proofs.YtiaiohoadefgjaaDoor.X
open Go.RowKit Go.Proofs.YtiaiohoadefgjaaDoorW.PrintWords Go.Proofs.YtiaiohoadefgjaaDoor.E
def valueB (f : Field) (t : ByteArray) : Bool :=
 if f.f1 = 1 then (parseE t).2 && decide (f.f2 ≤ (parseE t).1 ∧ (parseE t).1 ≤ f.f3)
 else if f.f1 = 2 then decide (f.f2 ≤ (t.size : Int) ∧ (t.size : Int) ≤ f.f3)
 else if f.f1 = 3 then f.f4.any (fun x => x.toList == t.toList)
 else (t.toList == ([121, 101, 115] : List UInt8)) || (t.toList == ([110, 111] : List UInt8))
theorem within_eq2 (a l h : Int) : impl_within.f a l h = some (decide (l ≤ a ∧ a ≤ h)) := by
 unfold impl_within.f
 by_cases h1 : a ≥ l
 ·rw [if_pos h1]; congr 1; simp [h1]
 ·rw [if_neg h1]; congr 1; symm; simp; intro h2; omega
theorem yes_no (t : ByteArray) : (if t.toList = ([121, 101, 115] : List UInt8) then some true else some (t.toList == ([110, 111] : List UInt8))) = some ((t.toList == ([121, 101, 115] : List UInt8)) || (t.toList == ([110, 111] : List UInt8))) := by
 by_cases c : t.toList = ([121, 101, 115] : List UInt8)
 ·rw [if_pos c]; simp [c]
 ·rw [if_neg c, show (t.toList == ([121, 101, 115] : List UInt8)) = false by simpa using c, Bool.false_or]
theorem implValue_ev (f : Field) (t : ByteArray) (hf : fine f) (ht : t.size ≤ 281474976710656) : Ev (fun k => impl_Field_isValue.f k f.f0 f.f1 f.f2 f.f3 f.f4 f.f5 f.f6 t) (valueB f t) := by
 unfold impl_Field_isValue.f valueB
 by_cases c1 : f.f1 = 1
 ·rw [if_pos c1]
  refine ev_pos c1 (ev_bind0 (parseInt_eq t ht) ?_)
  by_cases c : (parseE t).2 = true
  ·exact ev_pos c (ev_bind0 (within_eq2 _ _ _) (ev_now (by rw [c, Bool.true_and])))
  ·exact ev_neg c (ev_now (by rw [Bool.not_eq_true] at c; rw [c, Bool.false_and]))
 rw [if_neg c1]
 refine ev_neg c1 ?_
 by_cases c2 : f.f1 = 2
 ·rw [if_pos c2]
  exact ev_pos c2 (ev_bind0 (within_eq2 _ _ _) (ev_now rfl))
 rw [if_neg c2]
 refine ev_neg c2 ?_
 by_cases c3 : f.f1 = 3
 ·rw [if_pos c3]
  exact ev_pos c3 (Ev.bind (slicesContainsStr_ev f.f4 t hf.2.1) (ev_now rfl))
 rw [if_neg c3]
 exact ev_neg c3 (ev_of (yes_no t))
theorem specValue_ev (f : Field) (t : ByteArray) (hf : fine f) (hk : 1 ≤ f.f1 ∧ f.f1 ≤ 4) : Ev (fun k => spec_l23Value.f k f.f0 f.f1 f.f2 f.f3 f.f4 f.f5 f.f6 t) (valueB f t) := by
 unfold spec_l23Value.f valueB
 by_cases c1 : f.f1 = 1
 ·rw [if_pos c1]
  refine ev_pos c1 (Ev.bind (show Ev (fun k => spec_ParseInt.f k t) (parseE t) from Ev.bind (l1Read_ev t) (ev_now rfl)) ?_)
  by_cases c : (parseE t).2 = true
  ·exact ev_pos c (ev_bind0 (l1In_eq _ _ _) (ev_now (by rw [c, Bool.true_and])))
  ·exact ev_neg c (ev_now (by rw [Bool.not_eq_true] at c; rw [c, Bool.false_and]))
 rw [if_neg c1]
 refine ev_neg c1 ?_
 by_cases c2 : f.f1 = 2
 ·rw [if_pos c2]
  exact ev_pos c2 (ev_bind0 (l1In_eq _ _ _) (ev_now rfl))
 rw [if_neg c2]
 refine ev_neg c2 ?_
 by_cases c3 : f.f1 = 3
 ·rw [if_pos c3]
  refine ev_neg (by omega) ?_
  have h := ev_walk (L := fun k i => spec_l23Value.l0 k t i f.f0 f.f1 f.f2 f.f3 f.f4 f.f5 f.f6) (G := fun i r => r.any (fun x => x.toList == t.toList)) f.f4 (Ev.step (fun k => rfl) (ev_neg (by omega) (ev_now rfl))) ?step
  case step =>
   intro i x r hi hd hx hk
   refine Ev.step (fun k => rfl) (ev_pos (by omega) (ev_pos (by omega) ?_))
   simp only [rdOf, Int.toNat_natCast, hx]
   by_cases c : x.toList = t.toList
   ·exact ev_pos c (ev_now (by simp [c]))
   ·refine ev_neg c ?_
    rw [wrap_succ hi hf.2.1]
    exact ev_cast hk (by simp [c])
  exact h
 rw [if_neg c3]
 exact ev_pos (by omega) (ev_of (yes_no t))
def stateN (form : List Field) (ans : List Answer) (i : Nat) : Int :=
 let v := rdOf false (visL form ans form.length) (i : Int)
 let a := (look ans (form.getD i zF).f0).isSome
 if v = false ∧ a = true then 3 else if v = true ∧ (form.getD i zF).f5 = true ∧ a = false then 1 else if v = true ∧ a = true ∧ valueB (form.getD i zF) (txtOf ans (form.getD i zF).f0) = false then 2 else 0
def statesL (form : List Field) (ans : List Answer) : Nat → List Int
 | 0 => []
 | i + 1 => statesL form ans i ++ [stateN form ans i]
theorem statesL_length (form : List Field) (ans : List Answer) : ∀ i, (statesL form ans i).length = i
 | 0 => rfl
 | i + 1 => by rw [statesL, List.length_append, statesL_length form ans i, List.length_singleton]
theorem implStates_ev (form : List Field) (ans : List Answer) (V : Valid form ans) (hf : ∀ f ∈ form, fine f) (ha : ∀ a ∈ ans, a.f1.size ≤ 1048576) : Ev (fun k => impl_states.f k form ans) (statesL form ans form.length) := by
 have hlen := V.len
 have hvl := visL_length form ans form.length
 have h := ev_all (L := fun k (s : List Int) i => impl_states.l0 k form ans s (visL form ans form.length) ((visL form ans form.length).length : Int) i) form.length (statesL form ans) (fun _ => true) [] (statesL form ans form.length) (fun _ => Ev.step (fun k => rfl) (ev_neg (by rw [hvl]; omega) (ev_now rfl))) ?h1 (fun i hi _ hc => nomatch hc)
 case h1 =>
  intro i hi _ _ y hy
  have hsl := statesL_length form ans i
  have hfi := hf _ (List.getElem_mem hi)
  rw [← getD_in hi zF] at hfi
  obtain ⟨b, hb, hbe⟩ := answerOf_eq ans (form.getD i zF).f0
  have htx : (txtOf ans (form.getD i zF).f0).size ≤ 1048576 := by
   unfold txtOf
   cases hq : look ans (form.getD i zF).f0 with
   | none => exact Nat.zero_le _
   | some x => exact ha x (List.mem_of_find?_eq_some hq)
  generalize hF : form.getD i zF = F at *
  generalize hT : txtOf ans F.f0 = T at *
  have hgo : ∀ n, n = stateN form ans i → Ev (fun k => impl_states.l0 k form ans (statesL form ans i ++ [n]) (visL form ans form.length) ((visL form ans form.length).length : Int) (wrap64 ((i : Int) + 1))) y := by
   intro n hn
   rw [wrap_succ hi (by omega), hn]
   exact hy
  have hst : stateN form ans i = (if rdOf false (visL form ans form.length) (i : Int) = false ∧ b = true then 3 else if rdOf false (visL form ans form.length) (i : Int) = true ∧ F.f5 = true ∧ b = false then 1 else if rdOf false (visL form ans form.length) (i : Int) = true ∧ b = true ∧ valueB F T = false then 2 else 0) := by
   unfold stateN
   rw [hF, hT, hbe]
  refine Ev.step (fun k => rfl) (ev_pos (by rw [hvl]; omega) (ev_pos (by omega) (ev_pos (by rw [hvl]; omega) (ev_pos (by omega) ?_))))
  simp only [rd_T54, Int.toNat_natCast]
  rw [show form.getD i z54 = F from hF]
  refine ev_bind0 hb ?_
  generalize hV : rdOf false (visL form ans form.length) (i : Int) = v at *
  have hj2 : ∀ q, (v = false → b = false) → q = (v && (F.f5 && !b)) → Ev (fun k => impl_states.j2 k form ans (statesL form ans i) v T b 0 (visL form ans form.length) ((visL form ans form.length).length : Int) (i : Int) q F.f0 F.f1 F.f2 F.f3 F.f4 F.f5 F.f6) y := by
   intro q hvb hq
   subst hq
   refine Ev.step (fun k => rfl) ?_
   simp only [impl_states.j2]
   cases v
   ·have := hvb rfl
    subst this
    refine ev_neg (by simp) (ev_neg (by simp) (ev_pos (by omega) (hgo 0 (by rw [hst]; simp))))
   cases b
   ·cases h5 : F.f5
    ·exact ev_neg (by simp) (ev_pos rfl (ev_neg (by simp) (ev_pos (by omega) (hgo 0 (by rw [hst, h5]; simp)))))
    ·exact ev_pos (by simp) (ev_pos (by omega) (hgo 1 (by rw [hst, h5]; simp)))
   ·refine ev_neg (by simp) (ev_pos rfl (ev_pos rfl ?_))
    have hval := implValue_ev F T hfi (by omega)
    cases h5 : valueB F T
    ·rw [h5] at hval
     exact Ev.bind hval (ev_neg (by simp) (ev_pos (by omega) (hgo 2 (by rw [hst, h5]; simp))))
    ·rw [h5] at hval
     exact Ev.bind hval (ev_pos rfl (ev_pos (by omega) (hgo 0 (by rw [hst, h5]; simp))))
  have hj1 : Ev (fun k => impl_states.j1 k form ans (statesL form ans i) v T b 0 (visL form ans form.length) ((visL form ans form.length).length : Int) (i : Int) (!v && b) F.f0 F.f1 F.f2 F.f3 F.f4 F.f5 F.f6) y := by
   refine Ev.step (fun k => rfl) ?_
   simp only [impl_states.j1]
   cases v
   ·cases b
    ·exact ev_neg (by simp) (ev_neg (by simp) (hj2 false (fun _ => rfl) (by simp)))
    ·exact ev_pos (by simp) (ev_pos (by omega) (hgo 3 (by rw [hst]; simp)))
   ·refine ev_neg (by simp) (ev_pos rfl ?_)
    cases h5 : F.f5
    ·have := hj2 false (fun h => nomatch h) (by rw [h5]; simp)
     rw [h5] at this
     exact ev_neg (by simp) this
    ·have := hj2 (!b) (fun h => nomatch h) (by rw [h5]; simp)
     rw [h5] at this
     exact ev_pos rfl this
  cases v
  ·exact ev_neg (by simp) hj1
  ·exact ev_pos rfl hj1
 unfold impl_states.f
 refine Ev.bind (implVis_ev form ans V) ?_
 rw [if_pos (by rw [all_range]; intro i hi; rfl)] at h
 exact h
theorem specStates_ev (form : List Field) (ans : List Answer) (V : Valid form ans) (hla : ans.length ≤ 9223372036854775807) (hf : ∀ f ∈ form, fine f) : Ev (fun k => spec_l23States.f k form ans) (statesL form ans form.length) := by
 have hlen := V.len
 have hvl := visL_length form ans form.length
 have h := ev_all (L := fun k (s : List Int) i => spec_l23States.l0 k form ans (visL form ans form.length) s i) form.length (statesL form ans) (fun _ => true) [] (statesL form ans form.length) (fun _ => Ev.step (fun k => rfl) (ev_neg (by omega) (ev_now rfl))) ?h1 (fun i hi _ hc => nomatch hc)
 case h1 =>
  intro i hi _ _ y hy
  have hsl := statesL_length form ans i
  have hfi := hf _ (List.getElem_mem hi)
  rw [← getD_in hi zF] at hfi
  have hfB := V.fld i hi
  unfold fieldB at hfB
  simp only [Bool.and_eq_true, decide_eq_true_eq] at hfB
  have hkind := hfB.1.1.2
  have htext := l23Text_ev ans (form.getD i zF).f0 hla
  have hgo : ∀ n, n = stateN form ans i → Ev (fun k => spec_l23States.l0 k form ans (visL form ans form.length) (statesL form ans i ++ [n]) (wrap64 ((i : Int) + 1))) y := by
   intro n hn
   rw [wrap_succ hi (by omega), hn]
   exact hy
  have hrdF : rd_T54 form (i : Int) = form.getD i zF := by unfold rd_T54; rw [Int.toNat_natCast]
  generalize hF : form.getD i zF = F at *
  generalize hT : txtOf ans F.f0 = T at *
  generalize hB : (look ans F.f0).isSome = b at *
  have hst : stateN form ans i = (if rdOf false (visL form ans form.length) (i : Int) = false ∧ b = true then 3 else if rdOf false (visL form ans form.length) (i : Int) = true ∧ F.f5 = true ∧ b = false then 1 else if rdOf false (visL form ans form.length) (i : Int) = true ∧ b = true ∧ valueB F T = false then 2 else 0) := by
   unfold stateN
   rw [hF, hT, hB]
  refine Ev.step (fun k => rfl) (ev_pos (by omega) (ev_pos (by omega) ?_))
  rw [hrdF]
  refine Ev.bind htext (ev_pos (by rw [hvl]; omega) ?_)
  have hj2 : ∀ q, (rdOf false (visL form ans form.length) (i : Int) = false → b = false) → q = (rdOf false (visL form ans form.length) (i : Int) && (F.f5 && !b)) → Ev (fun k => spec_l23States.j2 k form ans (visL form ans form.length) (statesL form ans i) (i : Int) T b q) y := by
   intro q hvb hq
   subst hq
   refine Ev.step (fun k => rfl) ?_
   simp only [spec_l23States.j2]
   rw [hrdF]
   cases hv : rdOf false (visL form ans form.length) (i : Int)
   ·have := hvb hv
    subst this
    refine ev_neg (by simp) (ev_pos (by omega) (ev_pos (by rw [hvl]; omega) (ev_neg (by simp) (ev_pos (by omega) (hgo 0 (by rw [hst, hv]; simp))))))
   cases b
   ·cases h5 : F.f5
    ·exact ev_neg (by simp) (ev_pos (by omega) (ev_pos (by rw [hvl]; omega) (ev_pos rfl (ev_neg (by simp) (ev_pos (by omega) (hgo 0 (by rw [hst, hv, h5]; simp)))))))
    ·exact ev_pos (by simp) (ev_pos (by omega) (hgo 1 (by rw [hst, hv, h5]; simp)))
   ·refine ev_neg (by simp) (ev_pos (by omega) (ev_pos (by rw [hvl]; omega) (ev_pos rfl (ev_pos rfl (ev_pos (by omega) ?_)))))
    have hval := specValue_ev F T hfi hkind
    cases h5 : valueB F T
    ·rw [h5] at hval
     exact Ev.bind hval (ev_neg (by simp) (ev_pos (by omega) (hgo 2 (by rw [hst, hv, h5]; simp))))
    ·rw [h5] at hval
     exact Ev.bind hval (ev_pos rfl (ev_pos (by omega) (hgo 0 (by rw [hst, hv, h5]; simp))))
  have hj1 : Ev (fun k => spec_l23States.j1 k form ans (visL form ans form.length) (statesL form ans i) (i : Int) T b (!(rdOf false (visL form ans form.length) (i : Int)) && b)) y := by
   refine Ev.step (fun k => rfl) ?_
   simp only [spec_l23States.j1]
   rw [hrdF]
   cases hv : rdOf false (visL form ans form.length) (i : Int)
   ·cases b
    ·exact ev_neg (by simp) (ev_pos (by omega) (ev_pos (by rw [hvl]; omega) (ev_neg (by simp) (hj2 false (fun _ => rfl) (by rw [hv]; simp)))))
    ·exact ev_pos (by simp) (ev_pos (by omega) (hgo 3 (by rw [hst, hv]; simp)))
   ·refine ev_neg (by simp) (ev_pos (by omega) (ev_pos (by rw [hvl]; omega) (ev_pos rfl (ev_pos (by omega) ?_))))
    cases h5 : F.f5
    ·exact ev_neg (by simp) (hj2 false (fun h => by rw [hv] at h; cases h) (by rw [h5, hv]; simp))
    ·exact ev_pos rfl (hj2 (!b) (fun h => by rw [hv] at h; cases h) (by rw [h5, hv]; simp))
  cases hv : rdOf false (visL form ans form.length) (i : Int)
  ·rw [hv] at hj1
   exact ev_neg (by simp) hj1
  ·rw [hv] at hj1
   exact ev_pos rfl hj1
 unfold spec_l23States.f
 refine Ev.bind (specVis_ev form ans V hla) ?_
 rw [if_pos (by rw [all_range]; intro i hi; rfl)] at h
 exact h
end Go.Proofs.YtiaiohoadefgjaaDoor.X
set_option linter.unusedVariables false
set_option linter.unusedSimpArgs false
namespace Go.Proofs.YtiaiohoadefgjaaDoor.X
open Go.RowKit Go.Proofs.YtiaiohoadefgjaaDoorW.PrintWords Go.Proofs.YtiaiohoadefgjaaDoor.E
def setG (ans : List Answer) (n t : ByteArray) (f : Field) : Option Answer := if f.f0.toList = n.toList then some ⟨n, t⟩ else (look ans f.f0).map (fun a => ⟨f.f0, a.f1⟩)
theorem implSet_ev (form : List Field) (ans : List Answer) (n t : ByteArray) (hl : form.length ≤ 10) : Ev (fun k => impl_SetAnswer.l0 k ans n t [] form (form.length : Int) 0) (form.filterMap (setG ans n t), true) := by
 have h := ev_scan0 (L := fun k (o : List Answer) i => impl_SetAnswer.l0 k ans n t o form (form.length : Int) i) (G := fun o i (r : List Field) => (o ++ r.filterMap (setG ans n t), true)) (fun o i r => o.length ≤ i) form [] (Nat.le_refl _) ?h1 ?h2
 case h1 =>
  intro o ho
  rw [List.filterMap_nil, List.append_nil]
  exact Ev.step (fun k => rfl) (ev_neg (by omega) (ev_now rfl))
 case h2 =>
  intro o i x r hI hi hd hg hk
  have hrd : rd_T54 form (i : Int) = x := by unfold rd_T54; rw [Int.toNat_natCast]; exact hg _
  refine Ev.step (fun k => rfl) (ev_pos (by omega) (ev_pos (by omega) (ev_pos (by omega) ?_)))
  rw [hrd, wrap_succ hi (by omega)]
  have ha : ∃ v, impl_answerOf.f ans x.f0 = some v ∧ (look ans x.f0).map (fun a => (⟨x.f0, a.f1⟩ : Answer)) = (if v.2 = true then some ⟨x.f0, v.1⟩ else none) := by
   unfold impl_answerOf.f look
   cases ans.find? (fun y => y.f0.toList == x.f0.toList) with
   | none => exact ⟨_, rfl, rfl⟩
   | some a => exact ⟨_, rfl, rfl⟩
  obtain ⟨v, hv, hvm⟩ := ha
  refine ev_bind0 hv ?_
  rw [List.filterMap_cons]
  by_cases c : x.f0.toList = n.toList
  ·refine ev_pos c (ev_pos (by omega) ?_)
   have h3 := hk (o ++ [⟨x.f0, t⟩]) (by rw [List.length_append, List.length_singleton]; omega)
   have hs : setG ans n t x = some ⟨x.f0, t⟩ := by unfold setG; rw [if_pos c, ba_inj c]
   rw [hs]
   rw [List.append_assoc] at h3
   exact h3
  ·refine ev_neg c ?_
   have hs : setG ans n t x = (if v.2 = true then some ⟨x.f0, v.1⟩ else none) := by unfold setG; rw [if_neg c]; exact hvm
   by_cases d : v.2 = true
   ·rw [if_pos d] at hs
    rw [hs]
    refine ev_pos d (ev_pos (by omega) ?_)
    have h3 := hk (o ++ [⟨x.f0, v.1⟩]) (by rw [List.length_append, List.length_singleton]; omega)
    rw [List.append_assoc] at h3
    exact h3
   ·rw [if_neg d] at hs
    rw [hs]
    exact ev_neg d (hk o (by omega))
 exact h
end Go.Proofs.YtiaiohoadefgjaaDoor.X
set_option linter.unusedVariables false
set_option linter.unusedSimpArgs false
namespace Go.Proofs.YtiaiohoadefgjaaDoor.X
open Go.RowKit Go.Proofs.YtiaiohoadefgjaaDoorW.PrintWords Go.Proofs.YtiaiohoadefgjaaDoor.E
theorem ansB_of {form : List Field} {L : List Answer} (hf : formB form = true) (hp : L.Pairwise (fun a b => fidx form a.f0 < fidx form b.f0)) (h0 : ∀ a ∈ L, 0 ≤ fidx form a.f0) (ht : ∀ a ∈ L, textB a.f1 = true) : ansB form L = true := by
 unfold ansB
 rw [hf, Bool.true_and, all_range]
 intro i hi
 unfold ansAt
 rw [Bool.and_eq_true, decide_eq_true_eq]
 have hm : L.getD i z51 ∈ L := by rw [getD_in hi]; exact List.getElem_mem hi
 refine ⟨?_, ht _ hm⟩
 rcases Nat.eq_zero_or_pos i with rfl | hp0
 ·have := h0 _ hm
  unfold lastI
  rw [if_pos rfl]
  omega
 ·obtain ⟨j, rfl⟩ : ∃ j, i = j + 1 := ⟨i - 1, by omega⟩
  rw [lastI_succ]
  have h := (List.pairwise_iff_getElem.1 hp) j (j + 1) (by omega) hi (by omega)
  rw [← getD_in (show j < L.length by omega) zA, ← getD_in hi zA] at h
  exact h
theorem pw_of {form : List Field} {ans : List Answer} (V : Valid form ans) : ans.Pairwise (fun a b => fidx form a.f0 < fidx form b.f0) := by
 rw [List.pairwise_iff_getElem]
 intro i j hi hj hij
 have h := pos_lt V hij hj
 unfold pos at h
 rw [getD_in hi, getD_in hj] at h
 exact h
theorem at_in {form : List Field} {ans : List Answer} (V : Valid form ans) {a : Answer} (ha : a ∈ ans) : 0 ≤ fidx form a.f0 ∧ textB a.f1 = true := by
 obtain ⟨i, hi, rfl⟩ := List.getElem_of_mem ha
 obtain ⟨k, h1, _⟩ := pos_in V hi
 have h2 := V.txt i hi
 unfold pos at h1
 rw [getD_in hi] at h1 h2
 exact ⟨by omega, h2⟩
def clrA (form : List Field) (V : List Bool) (ans : List Answer) : List Answer := ans.filter (fun a => rdOf false V (fidx form a.f0))
theorem clr_ok {form : List Field} {ans : List Answer} (hf : formB form = true) (V : Valid form ans) (W : List Bool) : ansB form (clrA form W ans) = true :=
 ansB_of hf ((pw_of V).sublist List.filter_sublist) (fun a ha => (at_in V ((List.mem_filter.1 ha).1)).1) (fun a ha => (at_in V ((List.mem_filter.1 ha).1)).2)
theorem look_clr {form : List Field} {W : List Bool} (ans : List Answer) (n : ByteArray) : look (clrA form W ans) n = if rdOf false W (fidx form n) = true then look ans n else none := by
 have key : ∀ x : Answer, (x.f0.toList == n.toList) = true → fidx form x.f0 = fidx form n := fun x hx => fidx_congr form (by simpa using hx)
 unfold look clrA
 rw [List.find?_filter]
 by_cases c : rdOf false W (fidx form n) = true
 ·rw [if_pos c]
  congr 1
  funext x
  cases hx : (x.f0.toList == n.toList) with
  | false => simp
  | true => rw [key x hx, c]; rfl
 ·rw [if_neg c, List.find?_eq_none]
  intro x _ hx
  simp only [Bool.and_eq_true, decide_eq_true_eq] at hx
  rw [key x hx.2] at hx
  exact c hx.1
theorem vis_get {form : List Field} {ans : List Answer} {i : Nat} : ∀ m, i < m → rdOf false (visL form ans m) (i : Int) = visAt form ans (visL form ans i) i := by
 intro m
 induction m with
 | zero => intro h; omega
 | succ m ih =>
  intro h
  unfold rdOf at ih ⊢
  rw [visL, Int.toNat_natCast, List.getD_eq_getElem?_getD]
  by_cases e : i = m
  ·subst e
   rw [List.getElem?_append_right (by rw [visL_length]; omega), visL_length, Nat.sub_self]
   rfl
  ·have h2 := ih (by omega)
   rw [Int.toNat_natCast, List.getD_eq_getElem?_getD] at h2
   rw [List.getElem?_append_left (by rw [visL_length]; omega)]
   exact h2
theorem vis_clr {form : List Field} {ans : List Answer} (V : Valid form ans) : ∀ i, i ≤ form.length → visL form (clrA form (visL form ans form.length) ans) i = visL form ans i := by
 intro i
 induction i with
 | zero => intro _; rfl
 | succ i ih =>
  intro hi
  rw [visL, visL, ih (by omega)]
  congr 2
  unfold visAt
  by_cases c : (form.getD i zF).f6.toList = ([] : List UInt8)
  ·rw [if_pos c, if_pos c]
  ·rw [if_neg c, if_neg c]
   obtain ⟨q, hq, hqi⟩ := if_at V (by omega) c
   rw [show fidx form (form.getD i zF).f6 = (q : Int) from hq]
   by_cases d : rdOf false (visL form ans i) (q : Int) = true
   ·rw [if_pos d, if_pos d]
    have d2 : rdOf false (visL form ans form.length) (fidx form (form.getD i zF).f6) = true := by
     rw [show fidx form (form.getD i zF).f6 = (q : Int) from hq, vis_get form.length (by omega)]
     rw [vis_get i hqi] at d
     exact d
    unfold txtOf
    rw [look_clr, if_pos d2]
   ·rw [if_neg d, if_neg d]
theorem states_clr {form : List Field} {ans : List Answer} (V : Valid form ans) {i : Nat} (hi : i < form.length) : stateN form (clrA form (visL form ans form.length) ans) i ≠ 3 := by
 unfold stateN
 rw [vis_clr V form.length (Nat.le_refl _), look_clr, V.name i hi]
 dsimp only
 intro h
 by_cases d : rdOf false (visL form ans form.length) (i : Int) = true
 ·rw [d] at h
  simp only [Bool.true_eq_false, false_and, if_false, true_and] at h
  split at h
  ·omega
  ·split at h <;> omega
 ·rw [if_neg d] at h
  have d' : rdOf false (visL form ans form.length) (i : Int) = false := by simpa using d
  rw [d'] at h
  simp at h
theorem statesL_mem {form : List Field} {ans : List Answer} : ∀ m x, x ∈ statesL form ans m → ∃ i, i < m ∧ x = stateN form ans i := by
 intro m
 induction m with
 | zero => intro x hx; cases hx
 | succ m ih =>
  intro x hx
  rw [statesL] at hx
  rcases List.mem_append.1 hx with h | h
  ·obtain ⟨i, h1, h2⟩ := ih x h
   exact ⟨i, by omega, h2⟩
  ·exact ⟨m, by omega, List.mem_singleton.1 h⟩
theorem set_name {ans : List Answer} {n t : ByteArray} {f : Field} {a : Answer} (h : setG ans n t f = some a) : a.f0 = f.f0 ∧ (a.f1 = t ∨ ∃ b ∈ ans, a.f1 = b.f1) := by
 unfold setG at h
 split at h
 case isTrue c =>
  have := Option.some.inj h
  subst this
  exact ⟨(ba_inj c).symm, .inl rfl⟩
 case isFalse c =>
  obtain ⟨b, hb, e⟩ := Option.map_eq_some_iff.1 h
  subst e
  exact ⟨rfl, .inr ⟨b, List.mem_of_find?_eq_some hb, rfl⟩⟩
theorem set_ok {form : List Field} {ans : List Answer} (hf : formB form = true) (V : Valid form ans) {n t : ByteArray} (ht : textB t = true) : ansB form (form.filterMap (setG ans n t)) = true := by
 have hpf : form.Pairwise (fun a b => fidx form a.f0 < fidx form b.f0) := by
  rw [List.pairwise_iff_getElem]
  intro i j hi hj hij
  have h1 := V.name i hi
  have h2 := V.name j hj
  rw [getD_in hi] at h1
  rw [getD_in hj] at h2
  rw [h1, h2]
  omega
 have hn : ∀ a ∈ form.filterMap (setG ans n t), ∃ f ∈ form, a.f0 = f.f0 ∧ (a.f1 = t ∨ ∃ b ∈ ans, a.f1 = b.f1) := by
  intro a ha
  obtain ⟨f, hf1, hf2⟩ := List.mem_filterMap.1 ha
  exact ⟨f, hf1, set_name hf2⟩
 refine ansB_of hf ?_ ?_ ?_
 ·rw [List.pairwise_filterMap]
  refine hpf.imp ?_
  intro f g h a ha b hb
  rw [(set_name ha).1, (set_name hb).1]
  exact h
 ·intro a ha
  obtain ⟨f, hf1, e, _⟩ := hn a ha
  obtain ⟨i, hi, rfl⟩ := List.getElem_of_mem hf1
  have h1 := V.name i hi
  rw [getD_in hi] at h1
  rw [e, h1]
  omega
 ·intro a ha
  obtain ⟨f, hf1, e, h⟩ := hn a ha
  rcases h with h | ⟨b, hb, h⟩
  ·rw [h]; exact ht
  ·rw [h]; exact (at_in V hb).2
theorem set_there {form : List Field} {ans : List Answer} {n t : ByteArray} {k : Nat} (hk : fidx form n = (k : Int)) : (⟨n, t⟩ : Answer) ∈ form.filterMap (setG ans n t) := by
 obtain ⟨h1, h2⟩ := fidx_at hk
 refine List.mem_filterMap.2 ⟨form.getD k zF, by rw [getD_in h1]; exact List.getElem_mem h1, ?_⟩
 unfold setG
 rw [h2, if_pos rfl]
end Go.Proofs.YtiaiohoadefgjaaDoor.X
set_option linter.unusedVariables false
set_option linter.unusedSimpArgs false
namespace Go.Proofs.YtiaiohoadefgjaaDoor.Pure
open Go.RowKit Go.Proofs.YtiaiohoadefgjaaDoor.X Go.Proofs.YtiaiohoadefgjaaDoorW.PrintWords Go.Proofs.YtiaiohoadefgjaaDoor.E
theorem cu_start {l : List Int} (h : l.length ≤ 9223372036854775807 ∧ ∀ y ∈ l, (Lit.int .u8 y).wf = true) : Cu l 0 := by
 refine ⟨h.1, fun y hy => ?_, by omega, by omega⟩
 have := h.2 y hy
 simp only [Lit.wf, Bool.and_eq_true, decide_eq_true_eq] at this
 exact this
theorem vTexts_self (ws : List ByteArray) (hl : ws.length ≤ 5000) : Ev (fun k => laws_vTexts.f k ws ws) true := by
 refine ev_pos rfl (ev_same (L := fun k i => laws_vTexts.l0 k ws ws i) ws.length ?_ ?_)
 ·exact Ev.step (fun k => rfl) (ev_neg (by omega) (ev_now rfl))
 ·intro i hi hnext
  refine Ev.step (fun k => rfl) (ev_pos (by omega) (ev_pos (by omega) (ev_pos (by omega) (ev_pos rfl ?_))))
  rw [wrap_succ hi (by omega)]
  exact hnext
theorem vInts_self (ws : List Int) (hl : ws.length ≤ 5000) : Ev (fun k => laws_vInts.f k ws ws) true := by
 refine ev_pos rfl (ev_same (L := fun k i => laws_vInts.l0 k ws ws i) ws.length ?_ ?_)
 ·exact Ev.step (fun k => rfl) (ev_neg (by omega) (ev_now rfl))
 ·intro i hi hnext
  refine Ev.step (fun k => rfl) (ev_pos (by omega) (ev_pos (by omega) (ev_pos (by omega) (ev_pos rfl ?_))))
  rw [wrap_succ hi (by omega)]
  exact hnext
theorem vHas_not (ws : List Int) (x : Int) (hl : ws.length ≤ 5000) (h : ∀ y ∈ ws, y ≠ x) : Ev (fun k => laws_vHas.f k ws x) false := by
 have g := ev_walk (L := fun k i => laws_vHas.l0 k ws x i) (G := fun i r => r.any (fun y => decide (y = x))) ws (Ev.step (fun k => rfl) (ev_neg (by omega) (ev_now rfl))) ?step
 case step =>
  intro i y r hi hd hx hk
  refine Ev.step (fun k => rfl) (ev_pos (by omega) (ev_pos (by omega) ?_))
  simp only [rd, Int.toNat_natCast, hx]
  by_cases c : y = x
  ·exact ev_pos c (ev_now (by simp [c]))
  ·refine ev_neg c ?_
   rw [wrap_succ hi (by omega)]
   exact ev_cast hk (by simp [c])
 refine ev_cast g ?_
 rw [List.any_eq_false]
 intro y hy
 have := h y hy
 simpa using this
def visNames (form : List X.Field) (V : List Bool) : Nat → List ByteArray
 | 0 => []
 | i + 1 => if rdOf false V (i : Int) = true then visNames form V i ++ [(form.getD i zF).f0] else visNames form V i
theorem visNames_length (form : List X.Field) (V : List Bool) : ∀ i, (visNames form V i).length ≤ i
 | 0 => Nat.le_refl _
 | i + 1 => by
  have := visNames_length form V i
  rw [visNames]
  split
  ·rw [List.length_append, List.length_singleton]; omega
  ·omega
section
variable {form : List X.Field} {ans : List X.Answer} (hl : form.length ≤ 6) (hf : ∀ f ∈ form, fine f) (hla : ans.length ≤ 100) (ha : ∀ a ∈ ans, SmA a)
include hl hf hla ha
omit hl hf hla in
theorem smA_fine : ∀ a ∈ ans, fineA a := fun a h => ⟨Nat.le_trans (ha a h).1 (by decide), Nat.le_trans (ha a h).2 (by decide)⟩
theorem valid_ev : Ev (fun k => impl_IsValidAnswers.f k form ans) (ansB form ans) := implAnswers_ev form ans (by omega) hf (by omega) (smA_fine ha)
theorem chk_ev (hv : ansB form ans = true) : Ev (fun k => impl_CheckAnswers.f k form ans) (statesL form ans form.length, true) := by
 have h := valid_ev hl hf hla ha
 rw [hv] at h
 exact Ev.bind h (ev_pos rfl (Ev.bind (implStates_ev form ans (valid_of hv) hf (fun a h => Nat.le_trans (ha a h).2 (by decide))) (ev_now rfl)))
theorem cmp_ev (hv : ansB form ans = true) : Ev (fun k => impl_IsComplete.f k form ans) (!((statesL form ans form.length).any (fun x => x != 0)), true) := by
 have h := valid_ev hl hf hla ha
 rw [hv] at h
 exact Ev.bind h (ev_pos rfl (Ev.bind (implStates_ev form ans (valid_of hv) hf (fun a h => Nat.le_trans (ha a h).2 (by decide))) (ev_now rfl)))
theorem vis_ev (hv : ansB form ans = true) : Ev (fun k => impl_VisibleFields.f k form ans) (visNames form (visL form ans form.length) form.length, true) := by
 have h2 := valid_ev hl hf hla ha
 rw [hv] at h2
 have V := valid_of hv
 have hvl := visL_length form ans form.length
 have g2 := ev_all (L := fun k (s : List ByteArray) i => impl_VisibleFields.l0 k form s (visL form ans form.length) ((visL form ans form.length).length : Int) i) form.length (visNames form (visL form ans form.length)) (fun _ => true) ([], false) (visNames form (visL form ans form.length) form.length, true) (fun _ => Ev.step (fun k => rfl) (ev_neg (by rw [hvl]; omega) (ev_now rfl))) ?h2 (fun i hi _ hc => nomatch hc)
 case h2 =>
  intro i hi _ _ y hy
  have hn := visNames_length form (visL form ans form.length) i
  refine Ev.step (fun k => rfl) (ev_pos (by rw [hvl]; omega) (ev_pos (by omega) (ev_pos (by rw [hvl]; omega) ?_)))
  rw [wrap_succ hi (by omega)]
  rw [visNames] at hy
  by_cases c : rdOf false (visL form ans form.length) (i : Int) = true
  ·rw [if_pos c] at hy
   exact ev_pos c (ev_pos (by omega) (ev_pos (by omega) hy))
  ·rw [if_neg c] at hy
   exact ev_neg c hy
 rw [if_pos (by rw [all_range]; intro i hi; rfl)] at g2
 exact Ev.bind h2 (ev_pos rfl (Ev.bind (implVis_ev form ans V) g2))
theorem clr_ev (hv : ansB form ans = true) : Ev (fun k => impl_ClearHidden.f k form ans) (clrA form (visL form ans form.length) ans, true) := by
 have h2 := valid_ev hl hf hla ha
 rw [hv] at h2
 have V := valid_of hv
 have hat : ∀ a : X.Answer, hidAt form a = fidx form a.f0 := by
  intro a
  have h := fieldOf_eq form a.f0
  unfold impl_fieldOf.f at h
  exact Option.some.inj h
 refine Ev.bind h2 (ev_pos rfl (Ev.bind (implVis_ev form ans V) (ev_pos ?_ (ev_now ?_))))
 ·unfold hidOk
  rw [Bool.and_eq_true, decide_eq_true_eq, List.all_eq_true]
  refine ⟨by omega, fun a ha' => ?_⟩
  obtain ⟨i, hi, e⟩ := List.mem_iff_getElem.1 ha'
  obtain ⟨k, h3, h4, _⟩ := pos_in V hi
  unfold pos at h3
  rw [getD_in hi, e] at h3
  have hvl := visL_length form ans form.length
  rw [hat, h3, Bool.and_eq_true, decide_eq_true_eq, decide_eq_true_eq]
  omega
 ·unfold clrA
  congr 2
end
theorem any_all (L : List Int) : (!(L.any (fun x => x != 0))) = L.all (fun x => x == 0) := by
 induction L with
 | nil => rfl
 | cons x L ih => rw [List.any_cons, List.all_cons, Bool.not_or, ih]; congr 1; cases h : (x == 0) <;> simp_all
theorem there_ev (form : List X.Field) (n t : ByteArray) (set : Bool) (L : List X.Answer) (hL : L.length ≤ 5000) (hv : Ev (fun k => impl_IsValidAnswers.f k form L) true) (h : set = true → ∃ i, i < L.length ∧ (L.getD i zA).f0 = n ∧ (L.getD i zA).f1 = t) :
  Ev (fun k => laws_FnAnswers.l1 k form n t L set false 0) true := by
 have fin : ∀ b, (set = true → b = true) → ∀ i : Nat, i = L.length → Ev (fun k => laws_FnAnswers.l1 k form n t L set b (i : Int)) true := by
  intro b hb i hi
  refine Ev.step (fun k => rfl) (ev_neg (by omega) ?_)
  by_cases c : set = true
  ·exact ev_pos c (ev_pos (hb c) (Ev.bind hv (ev_now rfl)))
  ·exact ev_neg c (ev_now rfl)
 have yes : ∀ m i : Nat, i + m = L.length → Ev (fun k => laws_FnAnswers.l1 k form n t L set true (i : Int)) true := by
  intro m
  induction m with
  | zero => intro i hi; exact fin true (fun _ => rfl) i (by omega)
  | succ m ih =>
   intro i hi
   refine Ev.step (fun k => rfl) (ev_pos (by omega) (ev_pos rfl ?_))
   rw [wrap_succ (show i < L.length by omega) (by omega)]
   exact ih (i + 1) (by omega)
 have no : ∀ m i : Nat, i + m = L.length → (set = true → ∃ j, i ≤ j ∧ j < L.length ∧ (L.getD j zA).f0 = n ∧ (L.getD j zA).f1 = t) → Ev (fun k => laws_FnAnswers.l1 k form n t L set false (i : Int)) true := by
  intro m
  induction m with
  | zero => intro i hi h; exact fin false (fun c => by obtain ⟨j, h1, h2, _⟩ := h c; omega) i (by omega)
  | succ m ih =>
   intro i hi h
   refine Ev.step (fun k => rfl) (ev_pos (by omega) (ev_neg (by simp) (ev_pos (by omega) ?_)))
   rw [wrap_succ (show i < L.length by omega) (by omega)]
   simp only [rd_T51, Int.toNat_natCast]
   by_cases c : (L.getD i zA).f0.toList = n.toList
   ·refine ev_pos c ?_
    by_cases d : (L.getD i zA).f1.toList = t.toList
    ·have e : ((L.getD i zA).f1.toList == t.toList) = true := by simpa using d
     rw [e]
     exact yes m (i + 1) (by omega)
    ·have e : ((L.getD i zA).f1.toList == t.toList) = false := by simpa using d
     rw [e]
     refine ih (i + 1) (by omega) (fun hs => ?_)
     obtain ⟨j, h1, h2, h3, h4⟩ := h hs
     by_cases ij : j = i
     ·subst ij
      exact absurd (by rw [h4]) d
     ·exact ⟨j, by omega, h2, h3, h4⟩
   ·refine ev_neg c (ih (i + 1) (by omega) (fun hs => ?_))
    obtain ⟨j, h1, h2, h3, h4⟩ := h hs
    by_cases ij : j = i
    ·subst ij
     exact absurd (by rw [h3]) c
    ·exact ⟨j, by omega, h2, h3, h4⟩
 exact no L.length 0 (by omega) (fun c => by obtain ⟨i, h1, h2⟩ := h c; exact ⟨i, by omega, h1, h2⟩)
theorem full_ev (form : List X.Field) (ans : List X.Answer) (n t : ByteArray) (L : List Int) (hL : L.length ≤ 5000) (hnext : Ev (fun k => laws_FnAnswers.j3 k form ans n t false) true) :
  Ev (fun k => laws_FnAnswers.l0 k form ans n t L (L.all (fun x => x == 0)) true true 0) true := by
 have key : ∀ m i : Nat, i + m = L.length → ∀ b, (b && (L.drop i).all (fun x => x == 0)) = L.all (fun x => x == 0) → Ev (fun k => laws_FnAnswers.l0 k form ans n t L (L.all (fun x => x == 0)) true b (i : Int)) true := by
  intro m
  induction m with
  | zero =>
   intro i hi b hb
   refine Ev.step (fun k => rfl) (ev_neg (by omega) (ev_pos rfl ?_))
   rw [List.drop_eq_nil_of_le (by omega), List.all_nil, Bool.and_true] at hb
   rw [hb]
   simpa using hnext
  | succ m ih =>
   intro i hi b hb
   have hlt : i < L.length := by omega
   refine Ev.step (fun k => rfl) (ev_pos (by omega) ?_)
   rw [wrap_succ hlt (by omega)]
   rw [List.drop_eq_getElem_cons hlt, List.all_cons] at hb
   cases b
   ·refine ev_neg (by simp) (ih (i + 1) (by omega) false ?_)
    rw [Bool.false_and] at hb ⊢
    exact hb
   ·refine ev_pos rfl (ev_pos (by omega) (ih (i + 1) (by omega) _ ?_))
    rw [rd_nat, getD_in hlt]
    rw [Bool.true_and] at hb
    exact hb
 exact key L.length 0 (by omega) true (by rw [List.drop_zero, Bool.true_and])
theorem draw_tot {l : List Int} (h : Cu l 0) : ∃ form ans n t, Ev (fun k => spec_DrawSetAnswer.f k l) (form, ans, n, t) ∧ form.length ≤ 6 ∧ (∀ f ∈ form, GoodF 5 f) ∧ ans.length ≤ 7 ∧ (∀ a ∈ ans, SmA a) ∧ n.size ≤ 10 ∧ t.size ≤ 10 := by
 obtain ⟨form, a1, s1, h1, hl, hg, c1, b1⟩ := form_tot h 0
 obtain ⟨ans, a2, s2, h2, hla, ha, c2, b2⟩ := answers_tot s1 hl (fun f hf => (hg f hf).1) c1 b1
 obtain ⟨n, a3, s3, e3, hn, c3, b3⟩ := of_tot s2 [(⟨#[107, 105, 110, 100]⟩ : ByteArray), (⟨#[100, 101, 112, 116, 104]⟩ : ByteArray), (⟨#[110, 111, 116, 101]⟩ : ByteArray), (⟨#[119, 101, 116]⟩ : ByteArray), (⟨#[122, 122]⟩ : ByteArray)] (by decide) c2 (by omega)
 obtain ⟨t, a4, s4, e4, ht, c4, b4⟩ := of_tot s3 [(⟨#[121, 101, 115]⟩ : ByteArray), (⟨#[110, 111]⟩ : ByteArray), (⟨#[53]⟩ : ByteArray), (⟨#[]⟩ : ByteArray), (⟨#[97, 9, 98]⟩ : ByteArray)] (by decide) c3 (by omega)
 refine ⟨form, ans, n, t, Ev.bind h1 (Ev.bind h2 (ev_bind0 e3 (ev_bind0 e4 (ev_now rfl)))), hl, hg, hla, ha, ?_, ?_⟩
 ·simp only [List.mem_cons, List.not_mem_nil, or_false] at hn
  rcases hn with rfl | rfl | rfl | rfl | rfl <;> decide
 ·simp only [List.mem_cons, List.not_mem_nil, or_false] at ht
  rcases ht with rfl | rfl | rfl | rfl | rfl <;> decide
theorem FnAnswers : PureFnAnswers := by
 intro code hcode
 have hcu := cu_start hcode
 unfold laws_FnAnswers.f
 refine ev_get (ev_bind0 (show laws_vBig.f code = some (decide ((code.length : Int) > 65536)) from rfl) ?_)
 by_cases cb : decide ((code.length : Int) > 65536) = true
 ·exact ev_pos cb (ev_now rfl)
 refine ev_neg cb ?_
 obtain ⟨form, ans, n, t, hd, hl, hg, hla, ha, hn, ht⟩ := draw_tot hcu
 have hfine : ∀ f ∈ form, fine f := fun f hf => ⟨Nat.le_trans (hg f hf).1 (by decide), Nat.le_trans (hg f hf).2.1 (by decide), fun s hs => Nat.le_trans ((hg f hf).2.2.1 s hs) (by decide), Nat.le_trans (hg f hf).2.2.2.1 (by decide)⟩
 have hla' : ans.length ≤ 100 := by omega
 have hv1 := valid_ev hl hfine hla' ha
 have hs1 := specAnswers_ev form ans (by omega) hfine (by omega) (smA_fine ha)
 refine Ev.bind hd ?_
 cases hv : ansB form ans
 ·rw [hv] at hv1 hs1
  have g1 : Ev (fun k => impl_CheckAnswers.f k form ans) (([] : List Int), false) := Ev.bind hv1 (ev_neg (by simp) (ev_now rfl))
  have g2 : Ev (fun k => spec_CheckAnswers.f k form ans) (([] : List Int), false) := Ev.bind hs1 (ev_neg (by simp) (ev_now rfl))
  refine Ev.bind g1 (Ev.bind g2 (ev_neg (by simp) (Ev.bind (vInts_self [] (by simp)) ?_)))
  show Ev (fun k => laws_FnAnswers.j0 k form ans n t ([] : List Int) false false) true
  refine Ev.step (fun k => rfl) ?_
  simp only [laws_FnAnswers.j0]
  exact ev_neg (by simp) (ev_neg (by simp) (ev_now rfl))
 have V := valid_of hv
 have g1 := chk_ev hl hfine hla' ha hv
 rw [hv] at hv1 hs1
 have g2 : Ev (fun k => spec_CheckAnswers.f k form ans) (statesL form ans form.length, true) := Ev.bind hs1 (ev_pos rfl (Ev.bind (specStates_ev form ans V (by omega) hfine) (ev_now rfl)))
 have hsl := statesL_length form ans form.length
 have hfB : formB form = true := by
  unfold ansB at hv
  rw [Bool.and_eq_true] at hv
  exact hv.1
 refine Ev.bind g1 (Ev.bind g2 (ev_neg (by simp) (Ev.bind (vInts_self (statesL form ans form.length) (by omega)) ?_)))
 have haC : ∀ a ∈ clrA form (visL form ans form.length) ans, SmA a := fun a h => ha a ((List.mem_filter.1 h).1)
 have hlC : (clrA form (visL form ans form.length) ans).length ≤ 100 := Nat.le_trans (List.length_filter_le _ _) hla'
 have hvC := clr_ok hfB V (visL form ans form.length)
 have q1 := clr_ev hl hfine hla' ha hv
 have q2 := vis_ev hl hfine hla' ha hv
 have q3 := vis_ev hl hfine hlC haC hvC
 have q4 := chk_ev hl hfine hlC haC hvC
 rw [vis_clr V form.length (Nat.le_refl _)] at q3
 have hnl := visNames_length form (visL form ans form.length) form.length
 have q5 := vTexts_self (visNames form (visL form ans form.length) form.length) (by omega)
 have q6 := vHas_not (statesL form (clrA form (visL form ans form.length) ans) form.length) 3 (by rw [statesL_length]; omega) (fun y hy => by
  obtain ⟨i, hi, e⟩ := statesL_mem _ _ hy
  rw [e]
  exact states_clr V hi)
 have q7 := cmp_ev hl hfine hla' ha hv
 rw [any_all] at q7
 show Ev (fun k => laws_FnAnswers.j0 k form ans n t (statesL form ans form.length) true false) true
 refine Ev.step (fun k => rfl) ?_
 simp only [laws_FnAnswers.j0]
 refine (ev_neg (by simp) (ev_pos trivial (Ev.bind q1 (Ev.bind q2 (Ev.bind q3 (Ev.bind q4 (ev_pos rfl (ev_pos rfl (ev_pos rfl (ev_pos rfl (Ev.bind q5 (ev_pos rfl (Ev.bind q6 ?_)))))))))))))
 refine Ev.step (fun k => rfl) ?_
 simp only [laws_FnAnswers.j1]
 refine (ev_neg (by simp) (Ev.bind q7 (full_ev form ans n t _ (by omega) ?_)))
 refine Ev.step (fun k => rfl) ?_
 simp only [laws_FnAnswers.j3]
 refine (ev_neg (by simp) ?_)
 have no : Ev (fun k => impl_SetAnswer.j0 k form ans n t true) (([] : List X.Answer), false) := Ev.step (fun k => rfl) (ev_now rfl)
 have nil_ok : Ev (fun k => impl_IsValidAnswers.f k form ([] : List X.Answer)) true := by
  have h := valid_ev (ans := []) hl hfine (by simp) (by simp)
  rw [show ansB form [] = true from ansB_of hfB List.Pairwise.nil (by simp) (by simp)] at h
  exact h
 have stop : ∀ o, Ev (fun k => impl_SetAnswer.f k form ans n t) o → o = (([] : List X.Answer), false) → Ev (fun k => (impl_SetAnswer.f k form ans n t).bind fun bt140 => laws_FnAnswers.l1 k form n t bt140.1 bt140.2 false 0) true := by
  intro o ho e
  subst e
  exact Ev.bind ho (there_ev form n t false [] (by simp) nil_ok (fun e => by cases e))
 by_cases c : fidx form n < 0
 ·exact stop _ (Ev.bind hv1 (ev_pos rfl (ev_bind0 (fieldOf_eq form n) (ev_pos c no)))) rfl
 have gx := isText_ev t (Nat.le_trans ht (by decide))
 cases hx : textB t
 ·rw [hx] at gx
  exact stop _ (Ev.bind hv1 (ev_pos rfl (ev_bind0 (fieldOf_eq form n) (ev_neg c (Ev.bind gx no))))) rfl
 rw [hx] at gx
 obtain ⟨at_, hat⟩ : ∃ k : Nat, fidx form n = (k : Int) := ⟨(fidx form n).toNat, by omega⟩
 have hi := implSet_ev form ans n t V.len
 have hgo : Ev (fun k => impl_SetAnswer.j0 k form ans n t false) (form.filterMap (setG ans n t), true) := by
  refine Ev.step (fun k => rfl) ?_
  simp only [impl_SetAnswer.j0]
  exact ev_neg (by simp) hi
 have hset : Ev (fun k => impl_SetAnswer.f k form ans n t) (form.filterMap (setG ans n t), true) := Ev.bind hv1 (ev_pos rfl (ev_bind0 (fieldOf_eq form n) (ev_neg c (Ev.bind gx hgo))))
 have hsl2 : (form.filterMap (setG ans n t)).length ≤ 6 := Nat.le_trans (List.length_filterMap_le _ _) hl
 have hsa : ∀ a ∈ form.filterMap (setG ans n t), SmA a := by
  intro a ha'
  obtain ⟨f, hf1, hf2⟩ := List.mem_filterMap.1 ha'
  obtain ⟨e1, e2⟩ := set_name hf2
  refine ⟨by rw [e1]; exact (hg f hf1).1, ?_⟩
  rcases e2 with e2 | ⟨b, hb, e2⟩
  ·rw [e2]; exact ht
  ·rw [e2]; exact (ha b hb).2
 have hvs := valid_ev (ans := form.filterMap (setG ans n t)) hl hfine (by omega) hsa
 rw [set_ok hfB V hx] at hvs
 refine Ev.bind hset (there_ev form n t true (form.filterMap (setG ans n t)) (by omega) hvs (fun _ => ?_))
 obtain ⟨i, hi, e⟩ := List.getElem_of_mem (set_there (ans := ans) (t := t) hat)
 exact ⟨i, hi, by rw [getD_in hi, e], by rw [getD_in hi, e]⟩
end Go.Proofs.YtiaiohoadefgjaaDoor.Pure
namespace Go.Proofs.YtiaiohoadefgjaaDoor.fnAnswers
open Go.ChangeShapes Go.WideShapes Go.ChangeAt Go.RowKit Go.Joins Go.Proofs.YtiaiohoadefgjaaDoorW.PrintWords Go.Proofs.YtiaiohoadefgjaaDoor.Open Go.Proofs.YtiaiohoadefgjaaDoor.X
open Go.ChangeMaps (open_string shut_string)
set_option linter.unusedVariables false
theorem own : ownKnob Tryd.prog.godebug = none := by kernel_rfl
def laid : List (String × DataW Unit) := [("math/bits.deBruijn32tab", Rows.laid_math_bits_deBruijn32tab), ("math/bits.deBruijn64tab", Rows.laid_math_bits_deBruijn64tab), ("internal/strconv.uint64pow10", Rows.laid_internal_strconv_uint64pow10), ("strconv.ErrRange", Rows.laid_strconv_ErrRange), ("strconv.ErrSyntax", Rows.laid_strconv_ErrSyntax)]
theorem door_met (os : Os) (args : Array Value) : laidMetH Tryd.prog laid ((World.doorLaid Tryd.prog 72 os).forCall (fun _ _ => 0) ⟨#[], args, []⟩).memory :=
 laidMetH_of_parts3 (fuel := 8) (laidMet_of_run' 8 (by kernel_rfl) (by kernel_rfl)) (by kernel_rfl) (by kernel_rfl)
theorem gTab : Tryd.prog.globalNamed "internal/strconv.uint64pow10" = some 1 := by kernel_rfl
theorem gTabType : (Tryd.prog.globals[1]?).map (·.type) = some 131 := by kernel_rfl
theorem cellsT : Tryd.prog.cellsOf 131 = 20 := by kernel_rfl
theorem cellsE : Tryd.prog.cellsOf 63 = 1 := by kernel_rfl
theorem only : laid.filter (fun x => x.1 == "internal/strconv.uint64pow10") = [("internal/strconv.uint64pow10", Lib.tabData .u64 Lib.pow10Tab)] := by kernel_rfl
theorem tableT {W : World} (h : laidMetH Tryd.prog laid W) : GT W := by
 have h2 := h.filter (fun x => x.1 == "internal/strconv.uint64pow10")
 rw [only] at h2
 rw [MakeChecks.laidMetH_plain _ _ _ (by kernel_rfl)] at h2
 exact Lib.tabIs_of_head (rest := []) gTab gTabType Tryd.underlying131 Tryd.underlying63 cellsE cellsT h2
theorem star : "*" ++ "errors.errorString" = "*errors.errorString" := by decide
theorem rowE (u : TypeId) (h : Tryd.prog.typeName? 3 u = some "*errors.errorString") : u = 149 := typeName_ptr_named (nm := "errors.errorString") (by rw [star]; kernel_rfl) (by kernel_rfl) (by decide) u (by rw [star]; exact h)
theorem gErrSyntax : Tryd.prog.globalNamed "strconv.ErrSyntax" = some 4 := by kernel_rfl
theorem onlyErrSyntax : laid.filter (fun x => x.1 == "strconv.ErrSyntax") = [("strconv.ErrSyntax", Rows.laid_strconv_ErrSyntax)] := by kernel_rfl
theorem cellErrSyntax {W : World} (h : laidMetH Tryd.prog laid W) : ∃ t v, W.cell? ⟨4, 0, none⟩ = some (.iface t v) := by
 have h2 := h.filter (fun x => x.1 == "strconv.ErrSyntax")
 rw [onlyErrSyntax] at h2
 rw [MakeChecks.laidMetH_plain _ _ _ (by kernel_rfl)] at h2
 unfold Rows.laid_strconv_ErrSyntax at h2
 obtain ⟨a, s, hv, _, _, _⟩ := laid_sentinel h2 gErrSyntax (by kernel_rfl : (Tryd.prog.globals[4]?).map (·.type) = some 100) Tryd.underlying100 rowE Tryd.underlying149 Tryd.underlying151 rfl rfl Tryd.underlying9 (by kernel_rfl : Tryd.prog.cellsOf 151 = 1) (by kernel_rfl : Tryd.prog.cellsOf 9 = 1)
 exact ⟨_, _, World.var?_cell gErrSyntax hv 0⟩
theorem gErrRange : Tryd.prog.globalNamed "strconv.ErrRange" = some 5 := by kernel_rfl
theorem onlyErrRange : laid.filter (fun x => x.1 == "strconv.ErrRange") = [("strconv.ErrRange", Rows.laid_strconv_ErrRange)] := by kernel_rfl
theorem cellErrRange {W : World} (h : laidMetH Tryd.prog laid W) : ∃ t v, W.cell? ⟨5, 0, none⟩ = some (.iface t v) := by
 have h2 := h.filter (fun x => x.1 == "strconv.ErrRange")
 rw [onlyErrRange] at h2
 rw [MakeChecks.laidMetH_plain _ _ _ (by kernel_rfl)] at h2
 unfold Rows.laid_strconv_ErrRange at h2
 obtain ⟨a, s, hv, _, _, _⟩ := laid_sentinel h2 gErrRange (by kernel_rfl : (Tryd.prog.globals[5]?).map (·.type) = some 100) Tryd.underlying100 rowE Tryd.underlying149 Tryd.underlying151 rfl rfl Tryd.underlying9 (by kernel_rfl : Tryd.prog.cellsOf 151 = 1) (by kernel_rfl : Tryd.prog.cellsOf 9 = 1)
 exact ⟨_, _, World.var?_cell gErrRange hv 0⟩
theorem table {W : World} (h : laidMetH Tryd.prog laid W) (hsh : W.ShapedOpen Tryd.prog) : GE W := ⟨tableT h, cellErrSyntax h, cellErrRange h, Tryd.laysM143.s1_3 W hsh⟩
/-- The wrap of a row with a condition on the world, the world's shape kept for the walk. -/
theorem ret_and_shaped {H : Type} {enc : TypeId × Value → H} {a : Assume} {C : Checked} {os : Os} {f : FuncId} {fn : Func} {s : ChangeSpec} {conds : List PathCond} {apart fresh handsOn again : Bool} {X : World → Array Value → Prop}
  (hX : ∀ (w w' : World) (args : Array Value), w.heap = w'.heap → X w args → X w' args)
  (own : ownKnob C.prog.godebug = none) (started : os.Started) (noInit : C.prog.inits.idxOf? f = none) (hfn : C.prog.funcs[f]? = some fn)
  (witness : ∃ (w : World) (tape : Tape) (i : Input), w.os = os ∧ (w.forCall tape i).Shaped C.prog ∧ i.vars = [] ∧ Input.okWide C.prog (w.forCall tape i) .any w.heap.size f i ∧
   ((s.pre enc C.prog fn conds apart (w.forCall tape i).memory i.args ∧ X (w.forCall tape i).memory i.args) ∧ sizedMet enc C.prog fn (OpenSpec.ofChange s) apart (w.forCall tape i).memory i.args) ∧ a.holds C.prog (lone (Frame.enter C.prog f i.args .normal) [] (w.forCall tape i)))
  (contract : ∀ (W : World) (base : Nat) (args : Array Value) (ds gs : List (DataW H)) (before : List MemPlace),
   (∀ (j : Nat) t v, fn.params[j]? = some t → args[j]? = some v → Value.okWide C.prog W .any base t v) → DataW.Whole enc C.prog fn.params.toList s.vars apart W args.toList ds gs before →
   conds.all (PathCond.test C.prog ⟨fn.params.toList, ds, s.plain.varTypes C.prog, gs⟩) = true → (DataW.weightsEach C.prog (fn.params.toList ++ s.plain.varTypes C.prog) (ds ++ gs)).all (· ≤ reachBytes) = true → X W args →
   W.ShapedOpen C.prog → a.holds C.prog (lone (Frame.enter C.prog f args .normal) [] W) → Calls C.prog f args W fun e W' => ∃ v, e = .returned v ∧ s.post enc C.prog fn apart fresh handsOn again W args v W') :
  ReturnsInHanded a C os f .any (fun w args => (s.pre enc C.prog fn conds apart w args ∧ X w args) ∧ sizedMet enc C.prog fn (OpenSpec.ofChange s) apart w args) (s.post enc C.prog fn apart fresh handsOn again) := by
 refine returnsInHanded_of_calls own started noInit witness ?_
 intro w tape i _ hsh _ hok hpre hholds
 obtain ⟨_, _, _, fn', hfn', _, _, _, _, hval⟩ := hok
 have e : fn' = fn := Option.some.inj (hfn'.symm.trans hfn)
 subst e
 obtain ⟨⟨⟨ds, gs, before, hw, hc⟩, hx⟩, hz⟩ := hpre
 refine (contract (w.forCall tape i) w.heap.size i.args ds gs before hval (DataW.Whole.of_heap (w' := w.forCall tape i) (by rfl) hw) hc (hz.weights hw) (hX _ _ _ (by rfl) hx) hsh hholds).mono fun e W' ⟨v, he, hp⟩ => ?_
 subst he
 exact ChangeSpec.post_blind hp
theorem laidOut : laidOutB Tryd.prog = true := by kernel_rfl
set_option maxRecDepth 100000 in
theorem lifted (os : Os) (started : os.Started) (H : Type) (enc : TypeId × Value → H) :
  ReturnsInHanded {} Tryd.checked os 4 .any (fun w args => (Rows.fnAnswersSpec.pre enc Tryd.prog Tryd.f4 [] false w args ∧ laidMetH Tryd.prog laid w) ∧ sizedMet enc Tryd.prog Tryd.f4 (OpenSpec.ofChange Rows.fnAnswersSpec) false w args)
   (Rows.fnAnswersSpec.post enc Tryd.prog Tryd.f4 false true false false) := by
 refine ret_and_shaped (C := Tryd.checked) (X := fun w _ => laidMetH Tryd.prog laid w) (fun _ _ _ hh h => h.of_heap hh) own started (by kernel_rfl) Tryd.func4
  (ChangeSpec.witness_shaped (enc := enc) (C := Tryd.checked) (os := os) (X := fun w _ => laidMetH Tryd.prog laid w) false (World.doorLaid Tryd.prog 72 os) #[.slice none 0 0] 8 rfl (World.shaped_of_RefB (by kernel_rfl) (by kernel_rfl)) (by kernel_rfl) (by kernel_rfl) (by kernel_rfl) (door_met os _)) ?_
 intro W base args ds gs before hval0 hW hcnd hsz0 hL hsh _
 have hval : ∀ (j : Nat) t v, Tryd.f4.params[j]? = some t → args[j]? = some v → Value.okWide Tryd.prog W .any base t v := hval0
 have hW' := hW
 obtain ⟨p, q, hA0, hV, rfl, hfz, hnd⟩ := hW
 have hA : DataW.TrodAll enc Tryd.prog W 0 (fun _ => true) true Tryd.f4.params.toList args.toList ds p := hA0
 rw [Tryd.params4] at hA hval
 obtain ⟨v0, vs0, d0, ds0, p0, q0, hargs, rfl, rfl, h0, r0⟩ := trodAll_cons hA
 obtain ⟨rfl, rfl, rfl⟩ := trodAll_nil r0
 obtain rfl : args = #[v0] := by cases args; simp_all
 obtain ⟨rfl, rfl⟩ := trodVars_none hV
 have kk0 := h0
 have lt0 : ∀ x ∈ p0, x.block < W.heap.size := by obtain ⟨m, hm⟩ := kk0; exact DataW.trod_lt m _ _ _ hm
 obtain ⟨A0, c0, a0, rfl, hc0, hr0, g0⟩ := arg_slice op22 (okWide_slice Tryd.underlying22 (hval 0 22 v0 rfl rfl)) h0
 clear hA0 hval0 hsz0
 obtain ⟨k, hk⟩ := Pure.FnAnswers a0 g0
 refine (X.laws_FnAnswers.calls k _ _ a0 true W hr0 hc0 (table hL hsh) hk (Aside0.mk rfl)).mono ?_
 rintro e W' ⟨he, bel0⟩
 have bel : Below W.heap.size W W' := by first | exact bel0 | exact bel0.below
 subst he
 exact ⟨_, rfl, _, _, _, [], _, [], hW', trodAll_mk1 (shut_bool Tryd.underlying4 _), (trodAll_cons_mk (Below.trod laidOut (by kernel_rfl) (of_decide_eq_true (by kernel_rfl)) kk0 bel lt0) trodAll_mk0), rfl, bel.frame _, fun h => by cases h⟩
theorem over : Rows.fnAnswersRow.holds Tryd.pinned (OpenSpec.ofChange Rows.fnAnswersSpec) :=
 OpenClaim.holds_of_wide 4 Tryd.f4 rfl rfl rfl rfl rfl rfl rfl ⟨rfl, rfl, rfl, rfl, rfl⟩ rfl rfl rfl rfl rfl (by kernel_rfl) Tryd.func4 (by kernel_rfl)
  (of_decide_eq_true (by kernel_rfl)) (by unfold Func.isWrapper; first | (rw [if_pos (by decide +kernel)]; kernel_rfl) | (rw [if_neg (by decide +kernel)]; exact ⟨rfl, rfl⟩))
  (fun os started H enc _ => lifted os started H enc)
theorem proved : Rows.FnAnswersSaid := over
#print axioms proved
theorem plain (f : FuncId) (fn : Func) (hf : Tryd.pinned.checked.prog.funcNamed "loop.example/g00876/laws.FnAnswers" = some f) (hfn : Tryd.pinned.checked.prog.funcs[f]? = some fn) :
  true = Tryd.pinned.checked.prog.looks [] ∧ ∀ (j : Nat) t, fn.params[j]? = some t → Tryd.pinned.checked.prog.wantsStandIn t = false := by
 obtain rfl : f = 4 := Option.some.inj ((show Tryd.prog.funcNamed "loop.example/g00876/laws.FnAnswers" = some 4 by kernel_rfl).symm.trans hf) |>.symm
 obtain rfl : fn = Tryd.f4 := (Option.some.inj (Tryd.func4.symm.trans hfn)).symm
 refine ⟨by kernel_rfl, fun j t ht => ?_⟩
 rw [Tryd.params4] at ht
 have hm := Array.mem_of_getElem? ht
 simp only [List.mem_toArray, List.mem_cons, List.not_mem_nil, or_false] at hm
 rcases hm with rfl
 exact (show Tryd.prog.wantsStandIn 22 = false by kernel_rfl)
theorem card : Rows.FnAnswersCardSaid :=
 Claim7.holds_tied_plain_at .later [] _ _ _ _ proved (fun _ h => by cases h) (by kernel_rfl) (fun _ h => by cases h) fnAnswers_row_tie rfl ⟨rfl, rfl⟩ (by kernel_rfl) rfl plain (by kernel_rfl)
#print axioms card
end Go.Proofs.YtiaiohoadefgjaaDoor.fnAnswers
namespace Go.Proofs.YtiaiohoadefgjaaDoor
/-- The row, under a short name, for the claim. -/
theorem fnAnswers_holds : Rows.FnAnswersSaid := fnAnswers.proved
/-- The card, under a short name. -/
theorem fnAnswersCard_holds : Rows.FnAnswersCardSaid := fnAnswers.card
end Go.Proofs.YtiaiohoadefgjaaDoor
