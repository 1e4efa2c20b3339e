/- For every row of bytes the law FnLog answers true: a record that is appended follows those that stand, unchanged, and recovery of the log's bytes gives the synchronized log. No condition.
This file (part 6 of 6) holds what the proof needs: plain functions with rounds and contracts written by programs of this work over the translation, and the lemmas. -/
import Derived.Test.YtkdibcifamlciaaDoorZFnLog2
import Derived.Test.YtkdibcifamlciaaDoorZFnLog3
import Derived.Lib.ConvBytes
import Derived.Lib.SmallJoins
import Derived.Shelf.Abstract
import Derived.Test.YtkdibcifamlciaaDoorZFnLog5
import Derived.Test.YtkdibcifamlciaaDoorZFnLog4
import Derived.Test.YtkdibcifamlciaaDoorTie
import Derived.Test.YtkdibcifamlciaaDoorCards
import Derived.Test.YtkdibcifamlciaaDoorRows
import Derived.WalkKit
import Derived.ProofKit
import Derived.OpenShut
import Derived.ShutString
import Derived.ChangeOld
import Derived.Below
import Derived.SizedLaws
import Derived.LaidMore
import Derived.Stop.Joined
import Derived.Stop.LaidErr
import Derived.Lib.LaidTab
import Derived.Lib.ItoaNum
import Derived.LaidSub
import Derived.Handed
import Derived.SevenTiedAt
namespace Go.Proofs.YtkdibcifamlciaaDoor.X
open Go.RowKit Go.Proofs.YtkdibcifamlciaaDoorW.PrintWords Go.Proofs.YtkdibcifamlciaaDoorW.PrintLast Go.Proofs.YtkdibcifamlciaaDoorW.PrintMore Go.Proofs.YtkdibcifamlciaaDoor.E
attribute [local go_sem] max2_int min2_int max_two min_two max_three min_three max_four min_four   -- for this text's walks alone
set_option linter.unusedVariables false
set_option linter.unusedSimpArgs false
attribute [-simp] ByteArray.size_append ByteArray.size_extract
attribute [-go_sem] ByteArray.size_append'

/-! ### spec_CrashLog: function 24 -/
/-- What lies in the row that a conversion of a text makes. -/
theorem spec_bw_frozen (w : World) (e : TypeId) (s : ByteArray) (j : Nat) (hj : j < s.size) : (Lib.bytesWorld w e s).frozen? ⟨w.heap.size, j, none⟩ = false := by
 (have hz : s.size ≤ (Lib.bytesCells w e s).size := by unfold Lib.bytesCells; rw [Array.size_append, Array.size_map]; exact Nat.le_add_right _ _); (simp [World.frozen?, Lib.bytesWorld_at_new]); (omega)
theorem spec_bw_below (w : World) (e : TypeId) (s : ByteArray) : Below w.heap.size w (Lib.bytesWorld w e s) := Joins.below_bytesWorld _ _ _ _ (Nat.le_refl _)
/-- The last byte of a row of bytes turned around. -/
def spec_tornB (s : ByteArray) : ByteArray := ⟨(s.data.toList.set (s.size - 1) (255 - s.data.toList.getD (s.size - 1) 0)).toArray⟩
theorem spec_add0 (b j : Nat) : (⟨b, 0, none⟩ : Addr).add j = ⟨b, j, none⟩ := by unfold Addr.add; split <;> simp_all
theorem spec_conv_plain (w : World) (s : ByteArray) (cap : Nat) : (convert 22 9 (.slice (some ⟨w.heap.size, 0, none⟩) s.size cap)).run Tryd.prog (Lib.bytesWorld w 5 s) = .ok (.string s) (Lib.bytesWorld w 5 s) := by
 have h := run_convert_bytes_back (P := Tryd.prog) (Lib.bytesWorld w 5 s) 22 9 5 ⟨w.heap.size, 0, none⟩ cap s.data.toList Tryd.underlying22 Tryd.underlying5 Tryd.underlying9 (fun j hj => by
  rw [spec_add0, Lib.bytesWorld_cell _ _ _ _ (by rw [Array.length_toList] at hj; exact hj), List.getD_eq_getElem?_getD, List.getElem?_eq_getElem hj, Option.getD_some])
 (rw [Array.length_toList] at h); (exact h)
theorem spec_turn (b : UInt8) : ((255 - b : UInt8).toNat : Int) = 255 - (b.toNat : Int) := by
 (have := b.toNat_lt); (rw [UInt8.toNat_sub]); (have : (255 : UInt8).toNat = 255 := rfl); (omega)
theorem spec_conv_torn (w : World) (s : ByteArray) (cap : Nat) (h0 : 0 < s.size) (bv : Int) (hbv : bv = ((s.data.toList.getD (s.size - 1) 0).toNat : Int)) : (convert 22 9 (.slice (some ⟨w.heap.size, 0, none⟩) s.size cap)).run Tryd.prog ((Lib.bytesWorld w 5 s).setCell ⟨w.heap.size, s.size - 1, none⟩ (.int .u8 (255 - bv))) = .ok (.string (spec_tornB s)) ((Lib.bytesWorld w 5 s).setCell ⟨w.heap.size, s.size - 1, none⟩ (.int .u8 (255 - bv))) := by
 have hsz : s.data.toList.length = s.size := Array.length_toList
 have h := run_convert_bytes_back (P := Tryd.prog) ((Lib.bytesWorld w 5 s).setCell ⟨w.heap.size, s.size - 1, none⟩ (.int .u8 (255 - bv))) 22 9 5 ⟨w.heap.size, 0, none⟩ cap (s.data.toList.set (s.size - 1) (255 - s.data.toList.getD (s.size - 1) 0)) Tryd.underlying22 Tryd.underlying5 Tryd.underlying9 (fun j hj => by
  (rw [List.length_set, hsz] at hj); (rw [spec_add0]); (by_cases e : j = s.size - 1); (· subst e; (rw [List.getElem_set_self, spec_turn, ← hbv]); (exact World.cell?_setCell_same' _ _ _ (by rw [Lib.bytesWorld_cell _ _ _ _ hj]; rfl))); (· (rw [World.cell?_setCell_other _ _ _ _ (by intro e2; injection e2 with _ e3; omega), Lib.bytesWorld_cell _ _ _ _ hj, List.getElem_set_ne (by omega), List.getD_eq_getElem?_getD, List.getElem?_eq_getElem (by omega), Option.getD_some])))
 (rw [List.length_set, hsz] at h); (exact h)
theorem spec_torn_size (s : ByteArray) : (spec_tornB s).size = s.size := by
 (show (s.data.toList.set _ _).toArray.size = s.size); (rw [List.size_toArray, List.length_set, Array.length_toList]); rfl
def spec_CrashLog.f (k : Nat) (a0_0 : ByteArray) (a0_1 : ByteArray) (a0_2 : Int) (a1 : Int) (a2 : Bool) : Option (ByteArray × Bool) := (spec_l27Log.f k a0_0 a0_1 a0_2).bind fun t => (if t = true then (if 0 ≤ a1 ∧ a1 ≤ (a0_1.size : Int) then (if a0_0.size + a0_1.size ≤ 4398046511104 then some (a0_0 ++ (if a2 = true ∧ 0 < a1 then spec_tornB (a0_1.extract 0 a1.toNat) else a0_1.extract 0 a1.toNat), true) else none) else some (⟨#[]⟩, false)) else some (⟨#[]⟩, false))
theorem spec_in_eq (a l h : Int) : spec_l1In.f a l h = some (decide (l ≤ a ∧ a ≤ h)) := by
 (unfold spec_l1In.f); (by_cases c1 : l ≤ a <;> by_cases c2 : a ≤ h <;> simp [*] <;> omega)
set_option maxHeartbeats 4000000 in
set_option maxRecDepth 100000 in
theorem spec_CrashLog.calls (k : Nat) (a0_0 : ByteArray) (a0_1 : ByteArray) (a0_2 : Int) (a1 : Int) (a2 : Bool) (r1 : ByteArray) (r2 : Bool) (w : World) (h : spec_CrashLog.f k a0_0 a0_1 a0_2 a1 a2 = some (r1, r2)) :
  Calls Tryd.prog 24 #[.agg #[.string a0_0, .string a0_1, .int .i64 a0_2], .int .i64 a1, .bool a2] w fun e w' => e = .returned (.tuple #[.string r1, .bool r2]) ∧ Below w.heap.size w w' := by
 (have hu27 := Tryd.underlying32); (have HB := Aside0.mk (Below.refl w.heap.size w)); (unfold spec_CrashLog.f at h); (have H := h); clear h; (replace H := obS H; obtain ⟨t101, A3, H⟩ := H); (by_cases c4 : t101 = true)
 ·subst c4
  (rw [if_pos rfl] at H); (by_cases c5 : 0 ≤ a1 ∧ a1 ≤ (a0_1.size : Int))
  ·rw [if_pos c5] at H
   by_cases c6 : a0_0.size + a0_1.size ≤ 4398046511104
   case neg => rw [if_neg c6] at H; exact absurd H (by simp)
   (rw [if_pos c6] at H); (simp only [Option.some.injEq, Prod.mk.injEq] at H); (obtain ⟨HQ, rfl⟩ := H); (have HH := Aside0.mk HQ); clear HQ; (obtain ⟨p1, q1⟩ := c5); (have A4 : spec_l1In.f a1 0 (a0_1.size : Int) = some true := by rw [spec_in_eq, decide_eq_true ⟨p1, q1⟩]); (have HA4 := Aside0.mk A4); clear A4; (have hs : (a0_1.extract 0 a1.toNat).size = a1.toNat := by rw [ByteArray.size_extract]; omega); (have hcv := fun (w : World) => Lib.run_convert_string_bytes (P := Tryd.prog) w 9 22 5 (a0_1.extract 0 a1.toNat) Tryd.underlying9 Tryd.underlying22 Tryd.underlying5); (have HSZ := Aside0.mk hs); (by_cases ct : a2 = true ∧ 0 < a1); (· (rw [if_pos ct] at HH); (obtain rfl := HH.out); (obtain ⟨rfl, ht0⟩ := ct); (have hgt : decide (a1 > 0) = true := decide_eq_true ht0); (have hz1 : ¬ 9223372036854775807 < a0_0.size + (spec_tornB (a0_1.extract 0 a1.toNat)).size := by rw [spec_torn_size, hs]; omega); (have hgt2 : decide (0 < a1) = true := decide_eq_true ht0); (go_enter Tryd.func24, Tryd.ntmps24); (go_wp2_with (first | (go_at_call 42; (refine (spec_l27Log.calls k a0_0 a0_1 a0_2 true _ A3.out).mono ?_; rintro e w6 ⟨rfl, hb⟩; have HB6 := Aside0.mk (below_step (by repeat (first | exact HB.out | apply bA | apply bN | apply bD)) hb); have g0 : w6.cell? ⟨w.heap.size, 0, none⟩ = some (.string a0_0) := (hb.cell (p := ⟨w.heap.size, 0, none⟩) (by simp)).trans (by simp); have g1 : w6.cell? ⟨w.heap.size, 1, none⟩ = some (.string a0_1) := (hb.cell (p := ⟨w.heap.size, 1, none⟩) (by simp)).trans (by simp); have S6 := Aside0.mk (Nat.lt_of_lt_of_le (by simp : w.heap.size < _) hb.size); clear hb)) | (go_at_call 31; (refine (spec_l1In.calls a1 0 (a0_1.size : Int) true _ HA4.out).mono ?_; rintro e w7 ⟨rfl, hdr⟩; have hb7 : Below w6.heap.size w6 w7 := (by obtain ⟨nd, e⟩ := hdr; rw [e]; exact pw_below_drewN (Below.refl _ _) nd); clear hdr; replace g0 := (hb7.cell (p := ⟨w.heap.size, 0, none⟩) S6.out).trans g0; replace g1 := (hb7.cell (p := ⟨w.heap.size, 1, none⟩) S6.out).trans g1; have S7 := Aside0.mk (Nat.lt_of_lt_of_le S6.out hb7.size); have HB7 := Aside0.mk (below_step HB6.out hb7); clear hb7; have b0 := (Lib.bytesWorld_old w7 5 (a0_1.extract 0 a1.toNat) ⟨w.heap.size, 0, none⟩ S7.out).trans g0; obtain ⟨bv, hbv⟩ : ∃ bv : Int, bv = (((a0_1.extract 0 a1.toNat).data.toList.getD (a1.toNat - 1) 0).toNat : Int) := ⟨_, rfl⟩; have b2 : 0 < a1 → (Lib.bytesWorld w7 5 (a0_1.extract 0 a1.toNat)).cell? ⟨w7.heap.size, a1.toNat - 1, none⟩ = some (.int .u8 bv) := (fun h0 => by rw [hbv]; exact Lib.bytesWorld_cell _ _ _ _ (by rw [hs]; omega)); have b3 : 0 < a1 → (Lib.bytesWorld w7 5 (a0_1.extract 0 a1.toNat)).frozen? ⟨w7.heap.size, a1.toNat - 1, none⟩ = false := (fun h0 => spec_bw_frozen _ _ _ _ (by rw [hs]; omega)); have v0 : 0 ≤ bv := (by omega); have v1 : bv ≤ 255 := (by rw [hbv]; have := ((a0_1.extract 0 a1.toNat).data.toList.getD (a1.toNat - 1) 0).toNat_lt; omega); have hne : ¬ w7.heap.size = w.heap.size := (by have := S7.out; omega); have n2 : ((Lib.bytesWorld w7 5 (a0_1.extract 0 a1.toNat)).setCell ⟨w7.heap.size, a1.toNat - 1, none⟩ (.int .u8 (255 - bv))).cell? ⟨w.heap.size, 0, none⟩ = some (.string a0_0) := (World.cell?_setCell_other _ _ _ _ (by intro e2; injection e2 with e3; exact hne e3)).trans b0; have hcb := spec_conv_torn w7 (a0_1.extract 0 a1.toNat) (grownCap w7 a1.toNat 0 5) (by rw [hs]; omega) bv (by rw [hs]; exact hbv); rw [hs] at hcb; replace b2 := b2 ht0; replace b3 := b3 ht0; clear hbv)))); (go_ret2); (refine ⟨rfl, ?_⟩); (exact (HB7.out.trans ((spec_bw_below _ _ _).mono HB7.out.size)).setCell (by have := S7.out; show w.heap.size ≤ w7.heap.size; omega) _))
   ·rw [if_neg ct] at HH
    (obtain rfl := HH.out); (have hz1 : ¬ 9223372036854775807 < a0_0.size + (a0_1.extract 0 a1.toNat).size := by rw [hs]; omega); (have hz2 : ¬ 9223372036854775807 < a0_0.size + a1.toNat := by omega)
    have hcond : a2 = false ∨ (a2 = true ∧ a1 = 0) := by
     (cases a2); (· (exact .inl rfl)); (· (exact .inr ⟨rfl, by have : ¬ 0 < a1 := fun h => ct ⟨rfl, h⟩; omega⟩))
    (rcases hcond with rfl | ⟨rfl, ha⟩); (· (go_enter Tryd.func24, Tryd.ntmps24); (go_wp2_with (first | (go_at_call 42; (refine (spec_l27Log.calls k a0_0 a0_1 a0_2 true _ A3.out).mono ?_; rintro e w6 ⟨rfl, hb⟩; have HB6 := Aside0.mk (below_step (by repeat (first | exact HB.out | apply bA | apply bN | apply bD)) hb); have g0 : w6.cell? ⟨w.heap.size, 0, none⟩ = some (.string a0_0) := (hb.cell (p := ⟨w.heap.size, 0, none⟩) (by simp)).trans (by simp); have g1 : w6.cell? ⟨w.heap.size, 1, none⟩ = some (.string a0_1) := (hb.cell (p := ⟨w.heap.size, 1, none⟩) (by simp)).trans (by simp); have S6 := Aside0.mk (Nat.lt_of_lt_of_le (by simp : w.heap.size < _) hb.size); clear hb)) | (go_at_call 31; (refine (spec_l1In.calls a1 0 (a0_1.size : Int) true _ HA4.out).mono ?_; rintro e w7 ⟨rfl, hdr⟩; have hb7 : Below w6.heap.size w6 w7 := (by obtain ⟨nd, e⟩ := hdr; rw [e]; exact pw_below_drewN (Below.refl _ _) nd); clear hdr; replace g0 := (hb7.cell (p := ⟨w.heap.size, 0, none⟩) S6.out).trans g0; replace g1 := (hb7.cell (p := ⟨w.heap.size, 1, none⟩) S6.out).trans g1; have S7 := Aside0.mk (Nat.lt_of_lt_of_le S6.out hb7.size); have HB7 := Aside0.mk (below_step HB6.out hb7); clear hb7; have b0 := (Lib.bytesWorld_old w7 5 (a0_1.extract 0 a1.toNat) ⟨w.heap.size, 0, none⟩ S7.out).trans g0; obtain ⟨bv, hbv⟩ : ∃ bv : Int, bv = (((a0_1.extract 0 a1.toNat).data.toList.getD (a1.toNat - 1) 0).toNat : Int) := ⟨_, rfl⟩; have b2 : 0 < a1 → (Lib.bytesWorld w7 5 (a0_1.extract 0 a1.toNat)).cell? ⟨w7.heap.size, a1.toNat - 1, none⟩ = some (.int .u8 bv) := (fun h0 => by rw [hbv]; exact Lib.bytesWorld_cell _ _ _ _ (by rw [hs]; omega)); have b3 : 0 < a1 → (Lib.bytesWorld w7 5 (a0_1.extract 0 a1.toNat)).frozen? ⟨w7.heap.size, a1.toNat - 1, none⟩ = false := (fun h0 => spec_bw_frozen _ _ _ _ (by rw [hs]; omega)); have v0 : 0 ≤ bv := (by omega); have v1 : bv ≤ 255 := (by rw [hbv]; have := ((a0_1.extract 0 a1.toNat).data.toList.getD (a1.toNat - 1) 0).toNat_lt; omega); have hcb := spec_conv_plain w7 (a0_1.extract 0 a1.toNat) (grownCap w7 a1.toNat 0 5); rw [hs] at hcb; clear hbv b2 b3)))); (go_ret2); (refine ⟨rfl, ?_⟩); (exact HB7.out.trans ((spec_bw_below _ _ _).mono HB7.out.size))); (· (have hgt : decide (a1 > 0) = false := decide_eq_false (by omega)); (have hgt2 : decide (0 < a1) = false := decide_eq_false (by omega)); (have hgt3 : ¬ 0 < a1 := by omega); clear ha; (go_enter Tryd.func24, Tryd.ntmps24); (go_wp2_with (first | (go_at_call 42; (refine (spec_l27Log.calls k a0_0 a0_1 a0_2 true _ A3.out).mono ?_; rintro e w6 ⟨rfl, hb⟩; have HB6 := Aside0.mk (below_step (by repeat (first | exact HB.out | apply bA | apply bN | apply bD)) hb); have g0 : w6.cell? ⟨w.heap.size, 0, none⟩ = some (.string a0_0) := (hb.cell (p := ⟨w.heap.size, 0, none⟩) (by simp)).trans (by simp); have g1 : w6.cell? ⟨w.heap.size, 1, none⟩ = some (.string a0_1) := (hb.cell (p := ⟨w.heap.size, 1, none⟩) (by simp)).trans (by simp); have S6 := Aside0.mk (Nat.lt_of_lt_of_le (by simp : w.heap.size < _) hb.size); clear hb)) | (go_at_call 31; (refine (spec_l1In.calls a1 0 (a0_1.size : Int) true _ HA4.out).mono ?_; rintro e w7 ⟨rfl, hdr⟩; have hb7 : Below w6.heap.size w6 w7 := (by obtain ⟨nd, e⟩ := hdr; rw [e]; exact pw_below_drewN (Below.refl _ _) nd); clear hdr; replace g0 := (hb7.cell (p := ⟨w.heap.size, 0, none⟩) S6.out).trans g0; replace g1 := (hb7.cell (p := ⟨w.heap.size, 1, none⟩) S6.out).trans g1; have S7 := Aside0.mk (Nat.lt_of_lt_of_le S6.out hb7.size); have HB7 := Aside0.mk (below_step HB6.out hb7); clear hb7; have b0 := (Lib.bytesWorld_old w7 5 (a0_1.extract 0 a1.toNat) ⟨w.heap.size, 0, none⟩ S7.out).trans g0; obtain ⟨bv, hbv⟩ : ∃ bv : Int, bv = (((a0_1.extract 0 a1.toNat).data.toList.getD (a1.toNat - 1) 0).toNat : Int) := ⟨_, rfl⟩; have b2 : 0 < a1 → (Lib.bytesWorld w7 5 (a0_1.extract 0 a1.toNat)).cell? ⟨w7.heap.size, a1.toNat - 1, none⟩ = some (.int .u8 bv) := (fun h0 => by rw [hbv]; exact Lib.bytesWorld_cell _ _ _ _ (by rw [hs]; omega)); have b3 : 0 < a1 → (Lib.bytesWorld w7 5 (a0_1.extract 0 a1.toNat)).frozen? ⟨w7.heap.size, a1.toNat - 1, none⟩ = false := (fun h0 => spec_bw_frozen _ _ _ _ (by rw [hs]; omega)); have v0 : 0 ≤ bv := (by omega); have v1 : bv ≤ 255 := (by rw [hbv]; have := ((a0_1.extract 0 a1.toNat).data.toList.getD (a1.toNat - 1) 0).toNat_lt; omega); have hcb := spec_conv_plain w7 (a0_1.extract 0 a1.toNat) (grownCap w7 a1.toNat 0 5); rw [hs] at hcb; clear hbv b2 b3)))); (go_ret2); (refine ⟨rfl, ?_⟩); (exact HB7.out.trans ((spec_bw_below _ _ _).mono HB7.out.size)))
  ·rw [if_neg c5] at H
   (simp only [Option.some.injEq, Prod.mk.injEq] at H); (obtain ⟨rfl, rfl⟩ := H); (have A4 : spec_l1In.f a1 0 (a0_1.size : Int) = some false := by rw [spec_in_eq, decide_eq_false c5]); (have HA4 := Aside0.mk A4); clear A4 c5; (go_enter Tryd.func24, Tryd.ntmps24); (go_wp2_with (first | (go_at_call 42; (refine (spec_l27Log.calls k a0_0 a0_1 a0_2 true _ A3.out).mono ?_; rintro e w6 ⟨rfl, hb⟩; have HB6 := Aside0.mk (below_step (by repeat (first | exact HB.out | apply bA | apply bN | apply bD)) hb); have g0 : w6.cell? ⟨w.heap.size, 0, none⟩ = some (.string a0_0) := (hb.cell (p := ⟨w.heap.size, 0, none⟩) (by simp)).trans (by simp); have g1 : w6.cell? ⟨w.heap.size, 1, none⟩ = some (.string a0_1) := (hb.cell (p := ⟨w.heap.size, 1, none⟩) (by simp)).trans (by simp); have S6 := Aside0.mk (Nat.lt_of_lt_of_le (by simp : w.heap.size < _) hb.size); clear hb)) | (go_at_call 31; (refine (spec_l1In.calls a1 0 (a0_1.size : Int) false _ HA4.out).mono ?_; rintro e w7 ⟨rfl, hdr⟩; have hb7 : Below w6.heap.size w6 w7 := (by obtain ⟨nd, e⟩ := hdr; rw [e]; exact pw_below_drewN (Below.refl _ _) nd); clear hdr; replace g0 := (hb7.cell (p := ⟨w.heap.size, 0, none⟩) S6.out).trans g0; replace g1 := (hb7.cell (p := ⟨w.heap.size, 1, none⟩) S6.out).trans g1; have S7 := Aside0.mk (Nat.lt_of_lt_of_le S6.out hb7.size); have HB7 := Aside0.mk (below_step HB6.out hb7))))); (go_ret2); (exact ⟨rfl, HB7.out⟩)
 ·replace c4 := Bool.eq_false_iff.mpr c4
  subst c4; (rw [if_neg (show ¬ (false = true) by decide)] at H); (simp only [Option.some.injEq, Prod.mk.injEq] at H); (obtain ⟨rfl, rfl⟩ := H); (go_enter Tryd.func24, Tryd.ntmps24); (go_wp2_with ((go_at_call 42; (refine (spec_l27Log.calls k a0_0 a0_1 a0_2 false _ A3.out).mono ?_; rintro e w6 ⟨rfl, hb⟩; have HB6 := Aside0.mk (below_step (by repeat (first | exact HB.out | apply bA | apply bN | apply bD)) hb); have g0 : w6.cell? ⟨w.heap.size, 0, none⟩ = some (.string a0_0) := (hb.cell (p := ⟨w.heap.size, 0, none⟩) (by simp)).trans (by simp); have g1 : w6.cell? ⟨w.heap.size, 1, none⟩ = some (.string a0_1) := (hb.cell (p := ⟨w.heap.size, 1, none⟩) (by simp)).trans (by simp); have S6 := Aside0.mk (Nat.lt_of_lt_of_le (by simp : w.heap.size < _) hb.size); clear hb)))); (go_ret2); (exact ⟨rfl, HB6.out⟩)

end Go.Proofs.YtkdibcifamlciaaDoor.X
set_option linter.unusedVariables false
set_option linter.unusedSimpArgs false
namespace Go.Proofs.YtkdibcifamlciaaDoor.X
open Go.RowKit Go.Proofs.YtkdibcifamlciaaDoorW.PrintWords Go.Proofs.YtkdibcifamlciaaDoor.E
/-- A line's bytes are small. -/
def low (l : List UInt8) : Prop := ∀ c ∈ l, c.toNat ≤ 127 ∧ 32 ≤ c.toNat
theorem low_app {a b : List UInt8} : low (a ++ b) ↔ low a ∧ low b := by
  unfold low
  constructor
  · exact fun h => ⟨fun c hc => h c (List.mem_append_left _ hc), fun c hc => h c (List.mem_append_right _ hc)⟩
  · rintro ⟨h1, h2⟩ c hc
    rcases List.mem_append.1 hc with h | h
    · exact h1 c h
    · exact h2 c h
theorem low_dig : ∀ (u : Nat), low (Lib.decDigits u) := by
  have d10 : ∀ i : Fin 10, (UInt8.ofNat (48 + i.val)).toNat ≤ 127 ∧ 32 ≤ (UInt8.ofNat (48 + i.val)).toNat := by decide
  intro u
  induction u using Nat.strongRecOn with
  | _ u ih =>
    by_cases h : u < 10
    · rw [Lib.decDigits_one h]
      intro c hc
      rw [List.mem_singleton.1 hc]
      exact d10 ⟨u, h⟩
    · rw [Lib.decDigits, dif_neg h]
      refine low_app.2 ⟨ih (u / 10) (by omega), fun c hc => ?_⟩
      rw [List.mem_singleton.1 hc]
      exact d10 ⟨u % 10, by omega⟩
theorem low_num (v : Int) : low (numB v).data.toList := by
  unfold numB
  show low (Lib.itoa v)
  unfold Lib.itoa
  split
  · intro c hc
    rcases List.mem_cons.1 hc with rfl | h
    · decide
    · exact low_dig _ c h
  · exact low_dig _
theorem low_log (s : ByteArray) (h : logB s = true) : low s.data.toList := by
  intro c hm
  obtain ⟨i, hi, e⟩ := List.getElem_of_mem hm
  have hl : s.data.toList.length = s.size := by rw [Array.length_toList]; rfl
  have := all_range.1 h i (by omega)
  simp only [logAt, decide_eq_true_eq] at this
  rw [bt_get s i hi, e] at this
  omega
theorem low_enc {k : Int} {a c r : ByteArray} (h : Enc k a c r) : low a.data.toList := by
  obtain ⟨_, hr, rfl⟩ := h
  obtain ⟨_, h1, h2, _⟩ := recB_iff hr
  have one : ∀ x : UInt8, x.toNat ≤ 127 ∧ 32 ≤ x.toNat → low (⟨#[x]⟩ : ByteArray).data.toList := fun x hx y hy => by rw [List.mem_singleton.1 hy]; exact hx
  unfold sealB lineB
  simp only [ba_app]
  exact low_app.2 ⟨low_app.2 ⟨low_app.2 ⟨low_app.2 ⟨low_app.2 ⟨low_app.2 ⟨low_num _, one 32 (by decide)⟩, low_log _ h1⟩, one 64 (by decide)⟩, low_log _ h2⟩, one 35 (by decide)⟩, low_num _⟩
theorem low_nob {a : ByteArray} (h : low a.data.toList) : nob 10 a := fun hm => absurd (h _ hm).2 (by decide)
theorem enc_of {k : Int} {c r : ByteArray} (hk : 0 ≤ k ∧ k ≤ 59) (h : recB c r = true) : Enc k (sealB (lineB k c r)) c r := ⟨hk, h, rfl⟩
/-- A record's line, read. -/
theorem parse_line (k : Nat) (c r : ByteArray) (hk : k ≤ 59) (h : recB c r = true) : Parse k (lnN (k : Int) c r) [(⟨c, r⟩ : LR)] nilB := by
  have he := enc_of (k := (k : Int)) ⟨by omega, by omega⟩ h
  refine ⟨sealB (lineB k c r), nilB, ?_, low_nob (low_enc he), he, rfl, stop_nil _⟩
  apply ba_list
  unfold lnN cat
  rw [ba_app, ba_app, ba_app]
  simp
  rfl
theorem good_append {D P : ByteArray} {n : Int} {L : List LR} {c r : ByteArray} (h : GoodL D P n L) (hr : recB c r = true) (hn : 0 ≤ n ∧ n ≤ 59) : GoodL D (P ++ lnN n c r) (n + 1) (L ++ [⟨c, r⟩]) := by
  have hc := h.count
  obtain ⟨L1, h1⟩ := h.dur
  have hp := parse_line L.length c r (by omega) hr
  rw [hc] at hp
  have h2 := parse_app L 0 (D ++ P) (lnN n c r) [(⟨c, r⟩ : LR)] nilB h.all (by rw [Nat.zero_add]; exact hp)
  have e : (D ++ P) ++ lnN n c r = D ++ (P ++ lnN n c r) := ByteArray.append_assoc
  rw [e] at h2
  have hz := parse_size _ 0 _ _ h2
  have hl := parse_len _ 0 _ _ h2 (by omega)
  have hnz : (nilB).size = 0 := rfl
  rw [ByteArray.size_append] at hz
  exact ⟨by omega, ⟨L1, h1⟩, h2, by rw [List.length_append, List.length_singleton]; omega⟩
end Go.Proofs.YtkdibcifamlciaaDoor.X
set_option linter.unusedVariables false
set_option linter.unusedSimpArgs false
namespace Go.Proofs.YtkdibcifamlciaaDoor.Pure
open Go.RowKit Go.Proofs.YtkdibcifamlciaaDoor.X Go.Proofs.YtkdibcifamlciaaDoorW.PrintWords Go.Proofs.YtkdibcifamlciaaDoor.E
theorem drawLoop_tot {l : List Int} {a : Int} (s : Int) (h : Cu l a) (hb : a ≤ 999900) (m : Nat) : ∀ (D P : ByteArray) (n : Int), m ≤ 60 → D.size + P.size ≤ 425 * (60 - m) → ∃ D' P' n' c r, Ev (fun k => spec_DrawAppendRecord.l0 k (m : Int) l a s D P n) (D', P', n', c, r) ∧ D'.size + P'.size ≤ 25500 ∧ c.size ≤ 12 ∧ r.size ≤ 12 := by
  induction m with
  | zero =>
    intro D P n hm hz
    obtain ⟨c, r, a1, s1, e1, z1, z2, c1, b1⟩ := logRecord_tot s h hb
    exact ⟨D, P, n, c, r, Ev.step (fun k => rfl) (ev_neg (by omega) (ev_bind0 e1 (ev_now rfl))), by omega, z1, z2⟩
  | succ m ih =>
    intro D P n hm hz
    have hone : (⟨#[120]⟩ : ByteArray).size = 1 := rfl
    have hnz : (nilB).size = 0 := rfl
    obtain ⟨P1, n1, co, h1, hp1⟩ := append_tot D P n (⟨#[120]⟩ : ByteArray) (⟨#[]⟩ : ByteArray) (by omega) (by omega) (by show (nilB).size ≤ _; omega)
    obtain ⟨D', P', n', c, r, h2, z⟩ := ih D P1 n1 (by omega) (by omega)
    have hw : wrap64 (((m + 1 : Nat) : Int) - 1) = (m : Int) := by rw [wrap_id (by omega) (by omega)]; omega
    refine ⟨D', P', n', c, r, Ev.step (fun k => rfl) (ev_pos (by omega) (Ev.bind h1 ?_)), z⟩
    rw [hw]
    exact h2
theorem drawAppend_tot {l : List Int} (h : Cu l 0) : ∃ D P n c r, Ev (fun q => spec_DrawAppendRecord.f q l) (D, P, n, c, r) ∧ D.size + P.size ≤ 25500 ∧ c.size ≤ 12 ∧ r.size ≤ 12 := by
  obtain ⟨D, P, n, a1, s1, h1, z1, c1, b1⟩ := anyLog_tot 0 h (by omega)
  obtain ⟨b, a2, s2, e2, c2, b2⟩ := one_tot s1 40 c1 (by omega)
  cases b
  · obtain ⟨c, r, a3, s3, e3, z2, z3, c3, b3⟩ := logRecord_tot s2 c2 (by omega)
    exact ⟨D, P, n, c, r, Ev.bind h1 (ev_bind0 e2 (ev_neg (by simp) (ev_bind0 e3 (ev_now rfl)))), by omega, z2, z3⟩
  · obtain ⟨v, a3, s3, e3, h0, c3, b3⟩ := pick_in s2 2 (by omega) c2 (by omega)
    obtain ⟨m, hm⟩ : ∃ m : Nat, wrap64 (59 + v) = (m : Int) ∧ m ≤ 60 := ⟨(59 + v).toNat, by rw [wrap_id (by omega) (by omega)]; omega, by omega⟩
    have hnz : (nilB).size = 0 := rfl
    obtain ⟨D', P', n', c, r, h4, z⟩ := drawLoop_tot s3 c3 (by omega) m nilB nilB 0 hm.2 (by omega)
    refine ⟨D', P', n', c, r, Ev.bind h1 (ev_bind0 e2 (ev_pos rfl (ev_bind0 e3 ?_))), z⟩
    rw [hm.1]
    exact h4
theorem readRecords_ev (D P : ByteArray) (n : Int) (L : List LR) (g : GoodL D P n L) : Ev (fun k => impl_LogRecords.f k D P n) (L, true) := by
  have hs := g.small
  obtain ⟨b, L', h1, h2, h3, h4⟩ := log_iff D P n (by omega)
  obtain ⟨rfl, rfl⟩ := h4 L g
  exact Ev.bind h2 (ev_pos rfl (ev_now rfl))
theorem logLoop_ev (L : List LR) (c r D P S : ByteArray) (n sz : Int) (t1 t2 : Bool) (ht1 : t1 = true) (ht2 : t2 = true) (hl : L.length ≤ 60) (hb : D.size + P.size ≤ 30000) (hsz : sz = ((D ++ P).size : Int)) (hn : n = ((L ++ [(⟨c, r⟩ : LR)]).length : Int)) (hvalid : Ev (fun k => impl_IsValidLog.f k D P n) true) : Ev (fun k => laws_FnLog.l0 k (L ++ [(⟨c, r⟩ : LR)]) L sz t1 t2 0 c r D P n S nilB n S nilB n) true := by
  have hM : (L ++ [(⟨c, r⟩ : LR)]).length = L.length + 1 := by rw [List.length_append, List.length_singleton]
  have hlast : rd_T25 (L ++ [(⟨c, r⟩ : LR)]) (L.length : Int) = ⟨c, r⟩ := by
    unfold rd_T25
    rw [Int.toNat_natCast, List.getD_eq_getElem?_getD, List.getElem?_append_right (Nat.le_refl _), Nat.sub_self]
    rfl
  have hmid : ∀ i : Nat, i < L.length → rd_T25 (L ++ [(⟨c, r⟩ : LR)]) (i : Int) = rd_T25 L (i : Int) := by
    intro i hi
    unfold rd_T25
    rw [Int.toNat_natCast, List.getD_eq_getElem?_getD, List.getD_eq_getElem?_getD, List.getElem?_append_left hi]
  generalize L ++ [(⟨c, r⟩ : LR)] = M at hM hlast hmid hn
  refine ev_same (L := fun k i => laws_FnLog.l0 k M L sz t1 t2 i c r D P n S nilB n S nilB n) L.length ?_ ?_
  · refine Ev.step (fun k => rfl) (ev_neg (by omega) (ev_pos (by omega) (ev_pos (by omega) (ev_pos (by rw [hlast]; simp) (ev_pos ht1 (ev_pos (by omega) (ev_pos hsz (ev_pos ht2 (ev_pos (by simp) (Ev.bind hvalid (ev_now rfl)))))))))))
  · intro i hi hnext
    refine Ev.step (fun k => rfl) (ev_pos (by omega) (ev_pos (by omega) (ev_pos (by omega) (ev_neg ?_ ?_))))
    · rw [hmid i hi]; simp
    · rw [wrap_succ hi (by omega)]
      exact hnext
theorem FnLog : PureFnLog := by
  intro code hcode
  have hcu := cu_start hcode
  unfold laws_FnLog.f
  refine ev_get (ev_bind0 (show laws_vBig.f code = some (decide ((code.length : Int) > 65536)) from rfl) ?_)
  by_cases cb : decide ((code.length : Int) > 65536) = true
  · exact ev_pos cb (ev_now rfl)
  refine ev_neg cb ?_
  obtain ⟨D, P, n, c, r, hd, hz, hcs, hrs⟩ := drawAppend_tot hcu
  obtain ⟨v, hsv, hiv, hcase⟩ := append_cases D P n c r (by omega) (by omega) (by omega)
  obtain ⟨b, L, h1, h2, h2', h3, h4⟩ := valid_iff D P n (by omega)
  have h1' : Ev (fun k => spec_IsValidLog.f k D P n) b := Ev.bind h1 (ev_now rfl)
  have g1 : Ev (fun k => spec_IsValidLogRecord.f k c r) (recB c r) := Ev.bind (l27Good_ev c r (by omega) (by omega)) (ev_now rfl)
  have g2 : Ev (fun k => impl_IsValidLogRecord.f k c r) (recB c r) := implRec_ev c r (by omega) (by omega)
  suffices hj0 : ∀ x : Bool, x = false → Ev (fun k => laws_FnLog.j0 k v.2.2.2 x D P n c r v.1 v.2.1 v.2.2.1) true by
    refine Ev.bind hd (Ev.bind hiv (Ev.bind hsv (ev_neg (by simp) (ev_pos rfl (Ev.bind h2 (Ev.bind h1' (ev_neg (by simp) (Ev.bind g2 (Ev.bind g1 ?_)))))))))
    exact hj0 _ (by simp)
  intro x hx
  have same : ∀ co : Int, co ≠ 0 → v = (D, P, n, co) → Ev (fun k => laws_FnLog.j0 k v.2.2.2 x D P n c r v.1 v.2.1 v.2.2.1) true := by
    intro co hco hv
    subst hv
    exact Ev.step (fun k => rfl) (ev_neg (by rw [hx]; simp) (ev_neg hco (ev_now (by simp))))
  rcases hcase with hv | hv | ⟨L', G, hrec, hn, hv⟩
  · exact same 1 (by omega) hv
  · exact same 2 (by omega) hv
  subst hv
  have G2 := good_append G hrec hn
  have hcount := G.count
  have hs2 := G2.small
  have hz2 : (D ++ (P ++ lnN n c r)).size = D.size + (P ++ lnN n c r).size := ByteArray.size_append
  have hpz := parse_size _ 0 _ _ G2.all
  have hnz : (nilB).size = 0 := rfl
  have hrecov := implRec_ev2 _ _ _ G2.all (by omega)
  have hsync : Ev (fun k => impl_SyncLog.f k D (P ++ lnN n c r) (n + 1)) (D ++ (P ++ lnN n c r), nilB, n + 1, true) := by
    rcases sync_cases D (P ++ lnN n c r) (n + 1) (by omega) with ⟨_, _, _, h⟩ | ⟨h, _⟩
    · exact h
    · exact absurd G2 (h _)
  have hvalid : Ev (fun k => impl_IsValidLog.f k D (P ++ lnN n c r) (n + 1)) true := by
    obtain ⟨b, L, h1, h2, h2', h3, h4⟩ := valid_iff D (P ++ lnN n c r) (n + 1) (by omega)
    obtain ⟨rfl, rfl⟩ := h4 _ G2
    exact h2
  have hfull : (D ++ (P ++ lnN n c r)).extract 0 (sizeL 0 (L' ++ [(⟨c, r⟩ : LR)])) = D ++ (P ++ lnN n c r) := by rw [show sizeL 0 (L' ++ [(⟨c, r⟩ : LR)]) = (D ++ (P ++ lnN n c r)).size by omega, ByteArray.extract_zero_size]
  rw [hfull] at hrecov
  have hlen : (L' ++ [(⟨c, r⟩ : LR)]).length = L'.length + 1 := by rw [List.length_append, List.length_singleton]
  have hw : wrap64 ((L'.length : Int) + 1) = ((L'.length + 1 : Nat) : Int) := by rw [wrap_id (by omega) (by omega)]; omega
  suffices hj1 : ∀ y : Bool, y = false → Ev (fun k => laws_FnLog.j1 k (L' ++ [(⟨c, r⟩ : LR)]) L' (sizeL 0 (L' ++ [(⟨c, r⟩ : LR)]) : Int) true true y c r D (P ++ lnN n c r) (n + 1) (D ++ (P ++ lnN n c r)) nilB ((L' ++ [(⟨c, r⟩ : LR)]).length : Int) (D ++ (P ++ lnN n c r)) nilB (n + 1)) true by
    refine Ev.step (fun k => rfl) (ev_neg (by rw [hx]; simp) (ev_pos rfl (Ev.bind (readRecords_ev _ _ _ _ G2) (Ev.bind (readRecords_ev _ _ _ _ G) (ev_pos (by dsimp only; omega) (Ev.bind hrecov (Ev.bind hsync (ev_pos rfl (ev_pos (by dsimp only; rw [hlen, hw]) ?_)))))))))
    exact hj1 _ (by dsimp only; rw [hlen]; simp; omega)
  intro y hy
  have hcnt : n + 1 = ((L' ++ [(⟨c, r⟩ : LR)]).length : Int) := by rw [hlen]; omega
  have hsz : (sizeL 0 (L' ++ [(⟨c, r⟩ : LR)]) : Int) = ((D ++ (P ++ lnN n c r)).size : Int) := by omega
  have hll := (parse_len _ 0 _ _ G.all (by omega)).1
  have fin := logLoop_ev L' c r D (P ++ lnN n c r) (D ++ (P ++ lnN n c r)) (n + 1) _ true true rfl rfl (by rw [Nat.zero_add] at hll; exact hll) hs2 hsz hcnt hvalid
  refine Ev.step (fun k => rfl) (ev_neg (by rw [hy]; simp) ?_)
  rw [← hcnt]
  exact fin
end Go.Proofs.YtkdibcifamlciaaDoor.Pure
namespace Go.Proofs.YtkdibcifamlciaaDoor.fnLog
open Go.ChangeShapes Go.WideShapes Go.ChangeAt Go.RowKit Go.Joins Go.Proofs.YtkdibcifamlciaaDoorW.PrintWords Go.Proofs.YtkdibcifamlciaaDoor.Open Go.Proofs.YtkdibcifamlciaaDoor.X
open Go.ChangeMaps (open_string shut_string)
set_option linter.unusedVariables false
theorem own : ownKnob Tryd.prog.godebug = none := by kernel_rfl
def laid : List (String × DataW Unit) := [("math/bits.deBruijn32tab", Rows.laid_math_bits_deBruijn32tab), ("math/bits.deBruijn64tab", Rows.laid_math_bits_deBruijn64tab), ("internal/strconv.uint64pow10", Rows.laid_internal_strconv_uint64pow10)]
theorem door_met (os : Os) (args : Array Value) : laidMetH Tryd.prog laid ((World.doorLaid Tryd.prog 24 os).forCall (fun _ _ => 0) ⟨#[], args, []⟩).memory :=
  laidMetH_of_parts3 (fuel := 8) (laidMet_of_run' 8 (by kernel_rfl) (by kernel_rfl)) (by kernel_rfl) (by kernel_rfl)
theorem gTab : Tryd.prog.globalNamed "internal/strconv.uint64pow10" = some 1 := by kernel_rfl
theorem gTabType : (Tryd.prog.globals[1]?).map (·.type) = some 92 := by kernel_rfl
theorem cellsT : Tryd.prog.cellsOf 92 = 20 := by kernel_rfl
theorem cellsE : Tryd.prog.cellsOf 49 = 1 := by kernel_rfl
theorem only : laid.filter (fun x => x.1 == "internal/strconv.uint64pow10") = [("internal/strconv.uint64pow10", Lib.tabData .u64 Lib.pow10Tab)] := by kernel_rfl
theorem table {W : World} (h : laidMetH Tryd.prog laid W) : GT W := by
  have h2 := h.filter (fun x => x.1 == "internal/strconv.uint64pow10")
  rw [only] at h2
  rw [MakeChecks.laidMetH_plain _ _ _ (by kernel_rfl)] at h2
  exact Lib.tabIs_of_head (rest := []) gTab gTabType Tryd.underlying92 Tryd.underlying49 cellsE cellsT h2
theorem laidOut : laidOutB Tryd.prog = true := by kernel_rfl
set_option maxRecDepth 100000 in
theorem lifted (os : Os) (started : os.Started) (H : Type) (enc : TypeId × Value → H) :
    ReturnsInHanded {} Tryd.checked os 4 .any (fun w args => (Rows.fnLogSpec.pre enc Tryd.prog Tryd.f4 [] false w args ∧ laidMetH Tryd.prog laid w) ∧ sizedMet enc Tryd.prog Tryd.f4 (OpenSpec.ofChange Rows.fnLogSpec) false w args)
      (Rows.fnLogSpec.post enc Tryd.prog Tryd.f4 false true false false) := by
  refine returnsInHanded_of_change_and (C := Tryd.checked) (X := fun w _ => laidMetH Tryd.prog laid w) (fun _ _ _ hh h => h.of_heap hh) own started (by kernel_rfl) Tryd.func4
    (ChangeSpec.witness_shaped (enc := enc) (C := Tryd.checked) (os := os) (X := fun w _ => laidMetH Tryd.prog laid w) false (World.doorLaid Tryd.prog 24 os) #[.slice none 0 0] 8 rfl (World.shaped_of_RefB (by kernel_rfl) (by kernel_rfl)) (by kernel_rfl) (by kernel_rfl) (by kernel_rfl) (door_met os _)) ?_
  intro W base args ds gs before hval0 hW hcnd hsz0 hL _
  have hval : ∀ (j : Nat) t v, Tryd.f4.params[j]? = some t → args[j]? = some v → Value.okWide Tryd.prog W .any base t v := hval0
  have hW' := hW
  obtain ⟨p, q, hA0, hV, rfl, hfz, hnd⟩ := hW
  have hA : DataW.TrodAll enc Tryd.prog W 0 (fun _ => true) true Tryd.f4.params.toList args.toList ds p := hA0
  rw [Tryd.params4] at hA hval
  obtain ⟨v0, vs0, d0, ds0, p0, q0, hargs, rfl, rfl, h0, r0⟩ := trodAll_cons hA
  obtain ⟨rfl, rfl, rfl⟩ := trodAll_nil r0
  obtain rfl : args = #[v0] := by cases args; simp_all
  obtain ⟨rfl, rfl⟩ := trodVars_none hV
  have kk0 := h0
  have lt0 : ∀ x ∈ p0, x.block < W.heap.size := by obtain ⟨m, hm⟩ := kk0; exact DataW.trod_lt m _ _ _ hm
  obtain ⟨A0, c0, a0, rfl, hc0, hr0, g0⟩ := arg_slice op22 (okWide_slice Tryd.underlying22 (hval 0 22 v0 rfl rfl)) h0
  clear hA0 hval0 hsz0
  obtain ⟨k, hk⟩ := Pure.FnLog a0 g0
  refine (X.laws_FnLog.calls k _ _ a0 true W hr0 hc0 (table hL) hk (Aside0.mk rfl)).mono ?_
  rintro e W' ⟨he, bel0⟩
  have bel : Below W.heap.size W W' := by first | exact bel0 | exact bel0.below
  subst he
  exact ⟨_, rfl, _, _, _, [], _, [], hW', trodAll_mk1 (shut_bool Tryd.underlying4 _), (trodAll_cons_mk (Below.trod laidOut (by kernel_rfl) (of_decide_eq_true (by kernel_rfl)) kk0 bel lt0) trodAll_mk0), rfl, bel.frame _, fun h => by cases h⟩
theorem over : Rows.fnLogRow.holds Tryd.pinned (OpenSpec.ofChange Rows.fnLogSpec) :=
  OpenClaim.holds_of_wide 4 Tryd.f4 rfl rfl rfl rfl rfl rfl rfl ⟨rfl, rfl, rfl, rfl, rfl⟩ rfl rfl rfl rfl rfl (by kernel_rfl) Tryd.func4 (by kernel_rfl)
    (of_decide_eq_true (by kernel_rfl)) (by unfold Func.isWrapper; first | (rw [if_pos (by decide +kernel)]; kernel_rfl) | (rw [if_neg (by decide +kernel)]; exact ⟨rfl, rfl⟩))
    (fun os started H enc _ => lifted os started H enc)
theorem proved : Rows.FnLogSaid := over
#print axioms proved
theorem plain (f : FuncId) (fn : Func) (hf : Tryd.pinned.checked.prog.funcNamed "loop.example/g00876/laws.FnLog" = some f) (hfn : Tryd.pinned.checked.prog.funcs[f]? = some fn) :
    false = Tryd.pinned.checked.prog.looks [] ∧ ∀ (j : Nat) t, fn.params[j]? = some t → Tryd.pinned.checked.prog.wantsStandIn t = false := by
  obtain rfl : f = 4 := Option.some.inj ((show Tryd.prog.funcNamed "loop.example/g00876/laws.FnLog" = some 4 by kernel_rfl).symm.trans hf) |>.symm
  obtain rfl : fn = Tryd.f4 := (Option.some.inj (Tryd.func4.symm.trans hfn)).symm
  refine ⟨by kernel_rfl, fun j t ht => ?_⟩
  rw [Tryd.params4] at ht
  have hm := Array.mem_of_getElem? ht
  simp only [List.mem_toArray, List.mem_cons, List.not_mem_nil, or_false] at hm
  rcases hm with rfl
  exact (show Tryd.prog.wantsStandIn 22 = false by kernel_rfl)
theorem card : Rows.FnLogCardSaid :=
  Claim7.holds_tied_plain_at .later [] _ _ _ _ proved (fun _ h => by cases h) (by kernel_rfl) (fun _ h => by cases h) fnLog_row_tie rfl ⟨rfl, rfl⟩ (by kernel_rfl) rfl plain (by kernel_rfl)
#print axioms card
end Go.Proofs.YtkdibcifamlciaaDoor.fnLog
namespace Go.Proofs.YtkdibcifamlciaaDoor
/-- The row, under a short name, for the claim. -/
theorem fnLog_holds : Rows.FnLogSaid := fnLog.proved
/-- The card, under a short name. -/
theorem fnLogCard_holds : Rows.FnLogCardSaid := fnLog.card
end Go.Proofs.YtkdibcifamlciaaDoor
