/- For all forms and answers the law FnExactIsComplete answers true. No condition beyond what a reading tells.
This file (part 4 of 4) holds what the proof needs: plain functions with rounds and contracts written by programs of this work over the translation, and the lemmas. -/
import Derived.Test.YtdogpphfofimeaaDoorZFnExactIsComplete2
import Derived.Test.YtdogpphfofimeaaDoorZFnExactIsComplete3
import Derived.Lib.AtoiErrMem
import Derived.Lib.AtoiAllCases
import Derived.Lib.Strings
import Derived.Lib.SmallJoins
import Derived.Shelf.Abstract
import Derived.Test.YtdogpphfofimeaaDoorZFnExactIsComplete1
import Derived.ChangeArms
import Derived.DataReads
import Derived.Deep.Slices
import Derived.ChangeOld
import Derived.OpenShut
import Derived.Lib.ItoaNum
import Derived.Lib.ItoaLen
import Derived.Test.YtdogpphfofimeaaDoorTie
import Derived.Test.YtdogpphfofimeaaDoorCards
import Derived.Test.YtdogpphfofimeaaDoorRows
import Derived.WalkKit
import Derived.ProofKit
import Derived.ShutString
import Derived.Below
import Derived.SizedLaws
import Derived.LaidMore
import Derived.Stop.Joined
import Derived.Stop.LaidErr
import Derived.Lib.LaidTab
import Derived.LaidSub
import Derived.Handed
import Derived.SevenTiedAt
namespace Go.Proofs.YtdogpphfofimeaaDoor.X
open Go.RowKit Go.Proofs.YtdogpphfofimeaaDoorW.PrintWords Go.Proofs.YtdogpphfofimeaaDoorW.PrintLast Go.Proofs.YtdogpphfofimeaaDoorW.PrintMore Go.Proofs.YtdogpphfofimeaaDoor.E
attribute [local go_sem] max2_int min2_int max_two min_two max_three min_three max_four min_four   -- for this text's walks alone
set_option linter.unusedVariables false
set_option linter.unusedSimpArgs false
attribute [-simp] ByteArray.size_append ByteArray.size_extract
attribute [-go_sem] ByteArray.size_append'

/-! ### impl_ParseInt: function 102 -/
def parseE (s : ByteArray) : Int × Bool := match Lib.atoiAll s.data.toList with
 | .ok v => if (-999999 ≤ v ∧ v ≤ 999999) ∧ Lib.itoa v = s.data.toList then (v, true) else (0, false)
 | _ => (0, false)
def impl_ParseInt.f (a0 : ByteArray) : Option (Int × Bool) := if a0.size ≤ 281474976710656 then some (parseE a0) else none
theorem atoi_ok_below {s : ByteArray} {v : Int} (hz : s.size ≤ 281474976710656) (h : Lib.atoiAll s.data.toList = .ok v) (w : World) : Calls Tryd.prog 118 #[.string s] w fun e w' => e = .returned (.tuple #[.int .i64 v, .nilIface]) ∧ Below w.heap.size w w' := by
 (refine (Tryd.strconv_Atoi_ok s (by omega) v h w).mono ?_); (rintro e w' ⟨he, hw⟩); (refine ⟨he, ?_⟩); (rcases hw with rfl | ⟨t, rfl⟩); (· (exact Below.refl _ _)); (· (exact Joins.below_bytesWorld _ _ _ _ (Nat.le_refl _)))
theorem atoi_bad {s : ByteArray} (hz : s.size ≤ 281474976710656) (h : ∀ v, Lib.atoiAll s.data.toList ≠ .ok v) (w : World) (hE : GE w) : Calls Tryd.prog 118 #[.string s] w fun e w' => ∃ (n : Int) (t : TypeId) (v : Value), e = .returned (.tuple #[.int .i64 n, .iface t v]) ∧ Below w.heap.size w w' := by
 (obtain ⟨_, ⟨t1, p1, h1⟩, ⟨t2, p2, h2⟩⟩ := hE); (cases hc : Lib.atoiAll s.data.toList); (· (rename_i v; exact absurd hc (h v))); (· (exact (Any.strconv_Atoi_syntax Tryd.laysC172 s hz hc _ w h1 (Or.inr ⟨_, _, rfl⟩)).mono fun e w' ⟨N, he, _, _, hb⟩ => ⟨_, _, _, he, hb⟩)); (· (exact (Any.strconv_Atoi_range Tryd.laysC172 s hz hc _ w h2 (Or.inr ⟨_, _, rfl⟩)).mono fun e w' ⟨N, he, _, _, hb⟩ => ⟨_, _, _, he, hb⟩))
set_option maxHeartbeats 1000000 in
set_option maxRecDepth 100000 in
theorem impl_ParseInt.calls (a0 : ByteArray) (r1 : Int) (r2 : Bool) (w : World) (hG : GE w) (h : impl_ParseInt.f a0 = some (r1, r2)) :
  Calls Tryd.prog 102 #[.string a0] w fun e w' => e = .returned (.tuple #[.int .i64 r1, .bool r2]) ∧ Below w.heap.size w w' := by
 (unfold impl_ParseInt.f at h); (split at h)
 case isFalse => cases h
 (rename_i hz); (have HZ := Aside0.mk hz); clear hz; (have h := Option.some.inj h); (have HG := Aside0.mk hG); clear hG; (have HB := Aside0.mk (Below.refl w.heap.size w)); (by_cases hok : ∃ v, Lib.atoiAll a0.data.toList = .ok v)
 case neg =>
  have hbad : ∀ v, Lib.atoiAll a0.data.toList ≠ .ok v := fun v hv => hok ⟨v, hv⟩
  have hr : parseE a0 = (0, false) := by
   (unfold parseE); (split); (· (rename_i v hv; exact absurd hv (hbad v))); (· rfl)
  (rw [hr] at h); (injection h with h1 h2); (subst h1; subst h2); (have HBAD := Aside0.mk hbad); clear hr hbad hok; (go_enter Tryd.func102, Tryd.ntmps102); (go_wp2_with ((with_reducible refine gate_callee (f := 118) rfl ?_); refine gL (some 8) Tryd.func118 #[.string a0] ?_; (with_reducible refine (atoi_bad HZ.out HBAD.out _ HG.out).mono ?_); rintro e w1 ⟨n, t, v, rfl, hb⟩; refine ⟨_, rfl, ?_⟩; have n0_ := Aside0.mk (sI hb HB); clear HB hb; have HB := n0_; clear n0_)); (go_ret2); (exact ⟨rfl, eI HB⟩)
 (obtain ⟨v, hv⟩ := hok); (have hbd := Lib.atoiAll_bounds hv); (have hI : strconv_Itoa.f v = some ⟨(Lib.itoa v).toArray⟩ := by unfold strconv_Itoa.f; rw [if_pos hbd])
 have hW : impl_within.f v (-999999) 999999 = some (decide (-999999 ≤ v ∧ v ≤ 999999)) := by
  (unfold impl_within.f); (by_cases h1 : v ≥ -999999); (· (rw [if_pos h1]; congr 1; rw [decide_eq_decide]; omega)); (· (rw [if_neg h1, decide_eq_false (fun hh => h1 hh.1)]))
 (have HI := Aside0.mk hI); (have HV := Aside0.mk hv); (unfold parseE at h); (rw [hv] at h); (simp only at h); (by_cases c1 : -999999 ≤ v ∧ v ≤ 999999)
 case neg =>
  (rw [if_neg (fun hh => c1 hh.1)] at h); (injection h with h1 h2); (subst h1; subst h2); (rw [decide_eq_false c1] at hW); (have HWI := Aside0.mk hW); clear hv hI hW c1 hbd; (go_enter Tryd.func102, Tryd.ntmps102); (go_wp2_with (first | ((with_reducible refine gate_callee (f := 118) rfl ?_); refine gL (some 8) Tryd.func118 #[.string a0] ?_; (with_reducible refine (atoi_ok_below HZ.out HV.out _).mono ?_); rintro e w1 ⟨rfl, hb⟩; refine ⟨_, rfl, ?_⟩; have n0_ := Aside0.mk (sI hb HB); clear HB hb; have HB := n0_; clear n0_) | ((with_reducible refine gate_callee (f := 104) rfl ?_); refine gate_guard (by first | rfl | kernel_rfl) ?_; refine gL (some 15) Tryd.func104 #[.int .i64 v, .int .i64 (-999999), .int .i64 999999] ?_; (with_reducible refine (impl_within.calls _ _ _ _ _ HWI.out).mono ?_); rintro e w' ⟨rfl, ⟨nd, rfl⟩⟩; refine ⟨_, rfl, ?_⟩))); (go_ret2); (exact ⟨rfl, eI HB⟩)
 (rw [decide_eq_true c1] at hW); (have HWI := Aside0.mk hW); (by_cases c2 : Lib.itoa v = a0.data.toList); (· (rw [if_pos ⟨c1, c2⟩] at h); (injection h with h1 h2); (subst h1; subst h2); (have c3 : (⟨(Lib.itoa v).toArray⟩ : ByteArray) = a0 := by rw [c2]); (rw [c3] at hI); (have HI := Aside0.mk hI); clear hv hI hW c1 c2 c3 hbd; (go_enter Tryd.func102, Tryd.ntmps102); (go_wp2_with (first | ((with_reducible refine gate_callee (f := 118) rfl ?_); refine gL (some 8) Tryd.func118 #[.string a0] ?_; (with_reducible refine (atoi_ok_below HZ.out HV.out _).mono ?_); rintro e w1 ⟨rfl, hb⟩; refine ⟨_, rfl, ?_⟩; have n0_ := Aside0.mk (sI hb HB); clear HB hb; have HB := n0_; clear n0_) | ((with_reducible refine gate_callee (f := 104) rfl ?_); refine gate_guard (by first | rfl | kernel_rfl) ?_; refine gL (some 15) Tryd.func104 #[.int .i64 v, .int .i64 (-999999), .int .i64 999999] ?_; (with_reducible refine (impl_within.calls _ _ _ _ _ HWI.out).mono ?_); rintro e w' ⟨rfl, ⟨nd, rfl⟩⟩; refine ⟨_, rfl, ?_⟩) | ((with_reducible refine gate_callee (f := 85) rfl ?_); refine gate_guard (by first | rfl | kernel_rfl) ?_; refine gL (some 20) Tryd.func85 #[.int .i64 v] ?_; (with_reducible refine (strconv_Itoa.calls _ _ _ (GT.below HG.out.gt (eI HB)) HI.out).mono ?_); rintro e w2 ⟨rfl, hb⟩; refine ⟨_, rfl, ?_⟩; have n0_ := Aside0.mk (sI hb HB); clear HB hb; have HB := n0_; clear n0_))); (go_ret2); (exact ⟨rfl, eI HB⟩))
 ·rw [if_neg (fun hh => c2 hh.2)] at h
  (injection h with h1 h2); (subst h1; subst h2)
  have c3 : ((⟨(Lib.itoa v).toArray⟩ : ByteArray).toList != a0.toList) = true := by
   (rw [bne_iff_ne]); intro he; (rw [Lib.toList_data, Lib.toList_data] at he); (exact c2 (by simpa using he))
  have c4 : (Lib.itoa v == a0.toList) = false := by
   (rw [beq_eq_false_iff_ne]); intro he; (rw [Lib.toList_data] at he); (exact c2 he)
  clear hv hI hW c1 c2 hbd; (go_enter Tryd.func102, Tryd.ntmps102); (go_wp2_with (first | ((with_reducible refine gate_callee (f := 118) rfl ?_); refine gL (some 8) Tryd.func118 #[.string a0] ?_; (with_reducible refine (atoi_ok_below HZ.out HV.out _).mono ?_); rintro e w1 ⟨rfl, hb⟩; refine ⟨_, rfl, ?_⟩; have n0_ := Aside0.mk (sI hb HB); clear HB hb; have HB := n0_; clear n0_) | ((with_reducible refine gate_callee (f := 104) rfl ?_); refine gate_guard (by first | rfl | kernel_rfl) ?_; refine gL (some 15) Tryd.func104 #[.int .i64 v, .int .i64 (-999999), .int .i64 999999] ?_; (with_reducible refine (impl_within.calls _ _ _ _ _ HWI.out).mono ?_); rintro e w' ⟨rfl, ⟨nd, rfl⟩⟩; refine ⟨_, rfl, ?_⟩) | ((with_reducible refine gate_callee (f := 85) rfl ?_); refine gate_guard (by first | rfl | kernel_rfl) ?_; refine gL (some 20) Tryd.func85 #[.int .i64 v] ?_; (with_reducible refine (strconv_Itoa.calls _ _ _ (GT.below HG.out.gt (eI HB)) HI.out).mono ?_); rintro e w2 ⟨rfl, hb⟩; refine ⟨_, rfl, ?_⟩; have n0_ := Aside0.mk (sI hb HB); clear HB hb; have HB := n0_; clear n0_))); (go_ret2); (exact ⟨rfl, eI HB⟩)

end Go.Proofs.YtdogpphfofimeaaDoor.X
namespace Go.Proofs.YtdogpphfofimeaaDoor.X
open Go.RowKit Go.Proofs.YtdogpphfofimeaaDoorW.PrintWords Go.Proofs.YtdogpphfofimeaaDoorW.PrintLast Go.Proofs.YtdogpphfofimeaaDoorW.PrintMore
attribute [local go_sem] max2_int min2_int max_two min_two max_three min_three max_four min_four   -- for this text's walks alone
set_option linter.unusedVariables false
set_option linter.unusedSimpArgs false
attribute [-simp] ByteArray.size_append ByteArray.size_extract
attribute [-go_sem] ByteArray.size_append'

/-! ### impl_Field_isValue: function 94 -/
def impl_Field_isValue.f (k : Nat) (a0_0 : ByteArray) (a0_1 : Int) (a0_2 : Int) (a0_3 : Int) (l0_4 : List ByteArray) (a0_5 : Bool) (a0_6 : ByteArray) (a1 : ByteArray) : Option (Bool) := if a0_1 = 1 then ((impl_ParseInt.f a1).bind fun bt102 => (if bt102.2 = true then ((impl_within.f bt102.1 a0_2 a0_3).bind fun t104 => (some t104)) else (some false))) else (if a0_1 = 2 then ((impl_within.f (a1.size : Int) a0_2 a0_3).bind fun t105 => (some t105)) else (if a0_1 = 3 then ((slices_Contains_string_string.f k l0_4 a1).bind fun t106 => (some t106)) else (if a1.toList = ([121, 101, 115] : List UInt8) then (some true) else (some (a1.toList == ([110, 111] : List UInt8))))))
set_option maxHeartbeats 8000000 in
set_option maxRecDepth 100000 in
theorem impl_Field_isValue.calls (k : Nat) (a0_0 : ByteArray) (a0_1 : Int) (a0_2 : Int) (a0_3 : Int) (A0_4 : Option Addr) (c0_4 : Nat) (l0_4 : List ByteArray) (a0_5 : Bool) (a0_6 : ByteArray) (a1 : ByteArray) (r : Bool) (w : World) (hr0_4 : Kd.C Kd.string w A0_4 l0_4.length l0_4) (hc0_4 : l0_4.length ≤ c0_4) (hG : GE w) (h : impl_Field_isValue.f k a0_0 a0_1 a0_2 a0_3 l0_4 a0_5 a0_6 a1 = some r) :
  Calls Tryd.prog 94 #[.agg #[.string a0_0, .int .i64 a0_1, .int .i64 a0_2, .int .i64 a0_3, .slice A0_4 l0_4.length c0_4, .bool a0_5, .string a0_6], .string a1] w fun e w' => e = .returned (.bool r) ∧ Below w.heap.size w w' := by
 (have hu69 := Tryd.underlying69); (have HR0_4 := Aside0.mk hr0_4); (have HC0_4 := Aside0.mk hc0_4); clear hr0_4 hc0_4; (have HG := Aside0.mk hG); clear hG; (have HB := Aside0.mk (Below.refl w.heap.size w)); (unfold impl_Field_isValue.f at h); (have H := h); clear h; (by_cases c3 : a0_1 = 1)
 ·rw [if_pos c3] at H
  (have c3b0 : (a0_1 == 1) = true := beq_iff_eq.mpr c3); (have c3b1 : (a0_1 != 1) = false := bne_eq_false_iff_eq.mpr c3); clear c3; (replace H := obS H); (obtain ⟨⟨t102, t103⟩, A4, H⟩ := H); (replace H : (if t103 = true then ((impl_within.f t102 a0_2 a0_3).bind fun t104 => (some t104)) else (some false)) = some r := H); (by_cases c5 : t103 = true); (· subst c5; (rw [if_pos rfl] at H); (replace H := obS H); (obtain ⟨t104, A6, H⟩ := H); (obtain rfl := Option.some.inj H); (go_enter Tryd.func94, Tryd.ntmps94); (go_wp2_with (first | ((with_reducible refine gate_dst (N := 2) rfl ?_); refine box_event ?hg (N := 2) ?hd (cs := #[.string a0_0, .int .i64 a0_1, .int .i64 a0_2, .int .i64 a0_3, .slice A0_4 l0_4.length c0_4, .bool a0_5, .string a0_6]) (t := 69) ?hr ?_; (case hd => rfl); (case hg => rfl); (case hr => first | (go_simp; done) | (go_simp; rfl)); intro gb101 hg w7 hbox hb; have hB_ := zI hb HB; have n0_ := Aside0.mk (below_step hB_ hb); have n1_ := Aside0.mk (hbox); have n2_ := Aside0.mk (bx0 hg hB_); have n3_ := n2_; clear HB; have HB := n0_; have BK101 := n1_; have GW101 := n2_; have GE101 := n3_; clear n0_ n1_ n2_ n3_ hB_ hb hbox hg; have hcz8_0 := cz BK101.out 0; have hcz8_1 := cz BK101.out 1; have hcz8_2 := cz BK101.out 2; have hcz8_3 := cz BK101.out 3; have hcz8_4 := cz BK101.out 4; have hcz8_5 := cz BK101.out 5; have hcz8_6 := cz BK101.out 6; have hfz8_0 := blk_frozen BK101.out 0; have hfz8_1 := blk_frozen BK101.out 1; have hfz8_2 := blk_frozen BK101.out 2; have hfz8_3 := blk_frozen BK101.out 3; have hfz8_4 := blk_frozen BK101.out 4; have hfz8_5 := blk_frozen BK101.out 5; have hfz8_6 := blk_frozen BK101.out 6) | ((with_reducible refine gate_callee (f := 102) rfl ?_); refine gL (some 13) Tryd.func102 #[.string a1] ?_; (with_reducible refine (impl_ParseInt.calls a1 t102 true _ ?side1 A4.out).mono ?_); (case side1 => first | exact GE.below HG.out (eI HB) | (repeat (first | exact HG.out | (with_reducible first | apply GE.drewN | apply GE.drew | apply GE.alloc)))); rintro e w9 ⟨rfl, hb⟩; refine ⟨_, rfl, ?_⟩; have n0_ := Aside0.mk (kbI hb BK101); have n1_ := Aside0.mk (sI hb HB); clear BK101 HB; have BK101 := n0_; have HB := n1_; clear n0_ n1_; (try clear hb); (try clear hb2); (try clear hk); (try clear hi); have hcz10_0 := cz BK101.out 0; have hcz10_1 := cz BK101.out 1; have hcz10_2 := cz BK101.out 2; have hcz10_3 := cz BK101.out 3; have hcz10_4 := cz BK101.out 4; have hcz10_5 := cz BK101.out 5; have hcz10_6 := cz BK101.out 6; have hfz10_0 := blk_frozen BK101.out 0; have hfz10_1 := blk_frozen BK101.out 1; have hfz10_2 := blk_frozen BK101.out 2; have hfz10_3 := blk_frozen BK101.out 3; have hfz10_4 := blk_frozen BK101.out 4; have hfz10_5 := blk_frozen BK101.out 5; have hfz10_6 := blk_frozen BK101.out 6) | (go_at_call 104; (with_reducible refine (impl_within.calls t102 a0_2 a0_3 t104 _ A6.out).mono ?_); rintro e w' ⟨rfl, ⟨nd, rfl⟩⟩))); go_ret; (exact ⟨rfl, eI HB⟩))
  ·replace c5 := Bool.eq_false_iff.mpr c5
   subst c5; (rw [if_neg (show ¬ (false = true) by decide)] at H); (obtain rfl := Option.some.inj H); (go_enter Tryd.func94, Tryd.ntmps94); (go_wp2_with (first | ((with_reducible refine gate_dst (N := 2) rfl ?_); refine box_event ?hg (N := 2) ?hd (cs := #[.string a0_0, .int .i64 a0_1, .int .i64 a0_2, .int .i64 a0_3, .slice A0_4 l0_4.length c0_4, .bool a0_5, .string a0_6]) (t := 69) ?hr ?_; (case hd => rfl); (case hg => rfl); (case hr => first | (go_simp; done) | (go_simp; rfl)); intro gb101 hg w11 hbox hb; have hB_ := zI hb HB; have n0_ := Aside0.mk (below_step hB_ hb); have n1_ := Aside0.mk (hbox); have n2_ := Aside0.mk (bx0 hg hB_); have n3_ := n2_; clear HB; have HB := n0_; have BK101 := n1_; have GW101 := n2_; have GE101 := n3_; clear n0_ n1_ n2_ n3_ hB_ hb hbox hg; have hcz12_0 := cz BK101.out 0; have hcz12_1 := cz BK101.out 1; have hcz12_2 := cz BK101.out 2; have hcz12_3 := cz BK101.out 3; have hcz12_4 := cz BK101.out 4; have hcz12_5 := cz BK101.out 5; have hcz12_6 := cz BK101.out 6; have hfz12_0 := blk_frozen BK101.out 0; have hfz12_1 := blk_frozen BK101.out 1; have hfz12_2 := blk_frozen BK101.out 2; have hfz12_3 := blk_frozen BK101.out 3; have hfz12_4 := blk_frozen BK101.out 4; have hfz12_5 := blk_frozen BK101.out 5; have hfz12_6 := blk_frozen BK101.out 6) | ((with_reducible refine gate_callee (f := 102) rfl ?_); refine gL (some 13) Tryd.func102 #[.string a1] ?_; (with_reducible refine (impl_ParseInt.calls a1 t102 false _ ?side1 A4.out).mono ?_); (case side1 => first | exact GE.below HG.out (eI HB) | (repeat (first | exact HG.out | (with_reducible first | apply GE.drewN | apply GE.drew | apply GE.alloc)))); rintro e w13 ⟨rfl, hb⟩; refine ⟨_, rfl, ?_⟩; have n0_ := Aside0.mk (kbI hb BK101); have n1_ := Aside0.mk (sI hb HB); clear BK101 HB; have BK101 := n0_; have HB := n1_; clear n0_ n1_; (try clear hb); (try clear hb2); (try clear hk); (try clear hi)))); go_ret; (exact ⟨rfl, eI HB⟩)
 ·rw [if_neg c3] at H
  (have c3b0 : (a0_1 == 1) = false := beq_eq_false_iff_ne.mpr c3); (have c3b1 : (a0_1 != 1) = true := bne_iff_ne.mpr c3); (by_cases c14 : a0_1 = 2)
  ·rw [if_pos c14] at H
   (have c14b0 : (a0_1 == 2) = true := beq_iff_eq.mpr c14); (have c14b1 : (a0_1 != 2) = false := bne_eq_false_iff_eq.mpr c14); clear c14; (replace H := obS H); (obtain ⟨t105, A15, H⟩ := H); (obtain rfl := Option.some.inj H); (go_enter Tryd.func94, Tryd.ntmps94); (go_wp2_with (first | ((with_reducible refine gate_dst (N := 2) rfl ?_); refine box_event ?hg (N := 2) ?hd (cs := #[.string a0_0, .int .i64 a0_1, .int .i64 a0_2, .int .i64 a0_3, .slice A0_4 l0_4.length c0_4, .bool a0_5, .string a0_6]) (t := 69) ?hr ?_; (case hd => rfl); (case hg => rfl); (case hr => first | (go_simp; done) | (go_simp; rfl)); intro gb101 hg w16 hbox hb; have hB_ := zI hb HB; have n0_ := Aside0.mk (below_step hB_ hb); have n1_ := Aside0.mk (hbox); have n2_ := Aside0.mk (bx0 hg hB_); have n3_ := n2_; clear HB; have HB := n0_; have BK101 := n1_; have GW101 := n2_; have GE101 := n3_; clear n0_ n1_ n2_ n3_ hB_ hb hbox hg; have hcz17_0 := cz BK101.out 0; have hcz17_1 := cz BK101.out 1; have hcz17_2 := cz BK101.out 2; have hcz17_3 := cz BK101.out 3; have hcz17_4 := cz BK101.out 4; have hcz17_5 := cz BK101.out 5; have hcz17_6 := cz BK101.out 6; have hfz17_0 := blk_frozen BK101.out 0; have hfz17_1 := blk_frozen BK101.out 1; have hfz17_2 := blk_frozen BK101.out 2; have hfz17_3 := blk_frozen BK101.out 3; have hfz17_4 := blk_frozen BK101.out 4; have hfz17_5 := blk_frozen BK101.out 5; have hfz17_6 := blk_frozen BK101.out 6) | ((with_reducible refine gate_callee (f := 104) rfl ?_); refine gL (some 33) Tryd.func104 #[.int .i64 (a1.size : Int), .int .i64 a0_2, .int .i64 a0_3] ?_; (with_reducible refine (impl_within.calls (a1.size : Int) a0_2 a0_3 t105 _ A15.out).mono ?_); rintro e w' ⟨rfl, ⟨nd, rfl⟩⟩; refine ⟨_, rfl, ?_⟩))); go_ret; (exact ⟨rfl, eI HB⟩)
  ·rw [if_neg c14] at H
   (have c14b0 : (a0_1 == 2) = false := beq_eq_false_iff_ne.mpr c14); (have c14b1 : (a0_1 != 2) = true := bne_iff_ne.mpr c14); (by_cases c18 : a0_1 = 3)
   ·rw [if_pos c18] at H
    (have c18b0 : (a0_1 == 3) = true := beq_iff_eq.mpr c18); (have c18b1 : (a0_1 != 3) = false := bne_eq_false_iff_eq.mpr c18); clear c18; (replace H := obS H); (obtain ⟨t106, A19, H⟩ := H); (obtain rfl := Option.some.inj H); (go_enter Tryd.func94, Tryd.ntmps94); (go_wp2_with (first | ((with_reducible refine gate_dst (N := 2) rfl ?_); refine box_event ?hg (N := 2) ?hd (cs := #[.string a0_0, .int .i64 a0_1, .int .i64 a0_2, .int .i64 a0_3, .slice A0_4 l0_4.length c0_4, .bool a0_5, .string a0_6]) (t := 69) ?hr ?_; (case hd => rfl); (case hg => rfl); (case hr => first | (go_simp; done) | (go_simp; rfl)); intro gb101 hg w20 hbox hb; have hB_ := zI hb HB; have n0_ := Aside0.mk (below_step hB_ hb); have n1_ := Aside0.mk (hbox); have n2_ := Aside0.mk (bx0 hg hB_); have n3_ := n2_; clear HB; have HB := n0_; have BK101 := n1_; have GW101 := n2_; have GE101 := n3_; clear n0_ n1_ n2_ n3_ hB_ hb hbox hg; have hcz21_0 := cz BK101.out 0; have hcz21_1 := cz BK101.out 1; have hcz21_2 := cz BK101.out 2; have hcz21_3 := cz BK101.out 3; have hcz21_4 := cz BK101.out 4; have hcz21_5 := cz BK101.out 5; have hcz21_6 := cz BK101.out 6; have hfz21_0 := blk_frozen BK101.out 0; have hfz21_1 := blk_frozen BK101.out 1; have hfz21_2 := blk_frozen BK101.out 2; have hfz21_3 := blk_frozen BK101.out 3; have hfz21_4 := blk_frozen BK101.out 4; have hfz21_5 := blk_frozen BK101.out 5; have hfz21_6 := blk_frozen BK101.out 6) | ((with_reducible refine gate_callee (f := 47) rfl ?_); refine gL (some 39) Tryd.func47 #[.slice A0_4 l0_4.length c0_4, .string a1] ?_; (with_reducible refine (slices_Contains_string_string.calls k _ _ l0_4 a1 t106 _ ?side1 ?side2 A19.out).mono ?_); (case side1 => exact Kd.C_below HR0_4.out (eI HB)); (case side2 => exact HC0_4.out); rintro e w' ⟨rfl, ⟨nd, rfl⟩⟩; refine ⟨_, rfl, ?_⟩))); go_ret; (exact ⟨rfl, eI HB⟩)
   ·rw [if_neg c18] at H
    (have c18b0 : (a0_1 == 3) = false := beq_eq_false_iff_ne.mpr c18); (have c18b1 : (a0_1 != 3) = true := bne_iff_ne.mpr c18); (by_cases c22 : a1.toList = ([121, 101, 115] : List UInt8)); (· (rw [if_pos c22] at H); (have c22b0 : (a1.toList == ([121, 101, 115] : List UInt8)) = true := beq_iff_eq.mpr c22); (have c22b1 : (a1.toList != ([121, 101, 115] : List UInt8)) = false := bne_eq_false_iff_eq.mpr c22); clear c22; (obtain rfl := Option.some.inj H); (go_enter Tryd.func94, Tryd.ntmps94); (go_wp2_with (first | ((with_reducible refine gate_dst (N := 2) rfl ?_); refine box_event ?hg (N := 2) ?hd (cs := #[.string a0_0, .int .i64 a0_1, .int .i64 a0_2, .int .i64 a0_3, .slice A0_4 l0_4.length c0_4, .bool a0_5, .string a0_6]) (t := 69) ?hr ?_; (case hd => rfl); (case hg => rfl); (case hr => first | (go_simp; done) | (go_simp; rfl)); intro gb101 hg w23 hbox hb; have hB_ := zI hb HB; have n0_ := Aside0.mk (below_step hB_ hb); have n1_ := Aside0.mk (hbox); have n2_ := Aside0.mk (bx0 hg hB_); have n3_ := n2_; clear HB; have HB := n0_; have BK101 := n1_; have GW101 := n2_; have GE101 := n3_; clear n0_ n1_ n2_ n3_ hB_ hb hbox hg; have hcz24_0 := cz BK101.out 0; have hcz24_1 := cz BK101.out 1; have hcz24_2 := cz BK101.out 2; have hcz24_3 := cz BK101.out 3; have hcz24_4 := cz BK101.out 4; have hcz24_5 := cz BK101.out 5; have hcz24_6 := cz BK101.out 6; have hfz24_0 := blk_frozen BK101.out 0; have hfz24_1 := blk_frozen BK101.out 1; have hfz24_2 := blk_frozen BK101.out 2; have hfz24_3 := blk_frozen BK101.out 3; have hfz24_4 := blk_frozen BK101.out 4; have hfz24_5 := blk_frozen BK101.out 5; have hfz24_6 := blk_frozen BK101.out 6))); go_ret; (exact ⟨rfl, eI HB⟩)); (· (rw [if_neg c22] at H); (have c22b0 : (a1.toList == ([121, 101, 115] : List UInt8)) = false := beq_eq_false_iff_ne.mpr c22); (have c22b1 : (a1.toList != ([121, 101, 115] : List UInt8)) = true := bne_iff_ne.mpr c22); (obtain rfl := Option.some.inj H); (go_enter Tryd.func94, Tryd.ntmps94); (go_wp2_with (first | ((with_reducible refine gate_dst (N := 2) rfl ?_); refine box_event ?hg (N := 2) ?hd (cs := #[.string a0_0, .int .i64 a0_1, .int .i64 a0_2, .int .i64 a0_3, .slice A0_4 l0_4.length c0_4, .bool a0_5, .string a0_6]) (t := 69) ?hr ?_; (case hd => rfl); (case hg => rfl); (case hr => first | (go_simp; done) | (go_simp; rfl)); intro gb101 hg w25 hbox hb; have hB_ := zI hb HB; have n0_ := Aside0.mk (below_step hB_ hb); have n1_ := Aside0.mk (hbox); have n2_ := Aside0.mk (bx0 hg hB_); have n3_ := n2_; clear HB; have HB := n0_; have BK101 := n1_; have GW101 := n2_; have GE101 := n3_; clear n0_ n1_ n2_ n3_ hB_ hb hbox hg; have hcz26_0 := cz BK101.out 0; have hcz26_1 := cz BK101.out 1; have hcz26_2 := cz BK101.out 2; have hcz26_3 := cz BK101.out 3; have hcz26_4 := cz BK101.out 4; have hcz26_5 := cz BK101.out 5; have hcz26_6 := cz BK101.out 6; have hfz26_0 := blk_frozen BK101.out 0; have hfz26_1 := blk_frozen BK101.out 1; have hfz26_2 := blk_frozen BK101.out 2; have hfz26_3 := blk_frozen BK101.out 3; have hfz26_4 := blk_frozen BK101.out 4; have hfz26_5 := blk_frozen BK101.out 5; have hfz26_6 := blk_frozen BK101.out 6))); go_ret; (exact ⟨rfl, eI HB⟩))
/-! ### impl_states: function 56 -/
mutual
def impl_states.l0 : Nat → List (S69) → List (S58) → List Int → List Bool → Int → Int → Option (List Int)
 | 0, _, _, _, _, _, _ => none
 | k + 1, x0, x1, x5, x15, x16, x17 => if x17 < x16 then (if 0 ≤ x17 then (if x17 < (x15.length : Int) then (if x17 < (x0.length : Int) then ((impl_answerOf.f x1 ((rd_T69 x0 x17).f0)).bind fun bt110 => (if rdOf false x15 x17 = true then (impl_states.j1 k x0 x1 x5 (rdOf false x15 x17) bt110.1 bt110.2 0 x15 x16 x17 false ((rd_T69 x0 x17).f0) ((rd_T69 x0 x17).f1) ((rd_T69 x0 x17).f2) ((rd_T69 x0 x17).f3) ((rd_T69 x0 x17).f4) ((rd_T69 x0 x17).f5) ((rd_T69 x0 x17).f6)) else (impl_states.j1 k x0 x1 x5 (rdOf false x15 x17) bt110.1 bt110.2 0 x15 x16 x17 bt110.2 ((rd_T69 x0 x17).f0) ((rd_T69 x0 x17).f1) ((rd_T69 x0 x17).f2) ((rd_T69 x0 x17).f3) ((rd_T69 x0 x17).f4) ((rd_T69 x0 x17).f5) ((rd_T69 x0 x17).f6)))) else (none)) else (none)) else (none)) else (some x5)
def impl_states.j1 : Nat → List (S69) → List (S58) → List Int → Bool → ByteArray → Bool → Int → List Bool → Int → Int → Bool → ByteArray → Int → Int → Int → List ByteArray → Bool → ByteArray → Option (List Int)
 | 0, _, _, _, _, _, _, _, _, _, _, _, _, _, _, _, _, _, _ => none
 | k + 1, x0, x1, x5, x7, x9, x10, x11, x15, x16, x17, x33, x110000, x110001, x110002, x110003, x110004, x110005, x110006 => if x33 = true then (if x5.length < 17592186044416 then (impl_states.l0 k x0 x1 (x5 ++ [3]) x15 x16 (wrap64 (x17 + 1))) else (none)) else (if x7 = true then (if x110005 = true then (impl_states.j2 k x0 x1 x5 x7 x9 x10 x11 x15 x16 x17 (!x10) x110000 x110001 x110002 x110003 x110004 x110005 x110006) else (impl_states.j2 k x0 x1 x5 x7 x9 x10 x11 x15 x16 x17 false x110000 x110001 x110002 x110003 x110004 x110005 x110006)) else (impl_states.j2 k x0 x1 x5 x7 x9 x10 x11 x15 x16 x17 false x110000 x110001 x110002 x110003 x110004 x110005 x110006))
def impl_states.j2 : Nat → List (S69) → List (S58) → List Int → Bool → ByteArray → Bool → Int → List Bool → Int → Int → Bool → ByteArray → Int → Int → Int → List ByteArray → Bool → ByteArray → Option (List Int)
 | 0, _, _, _, _, _, _, _, _, _, _, _, _, _, _, _, _, _, _ => none
 | k + 1, x0, x1, x5, x7, x9, x10, x11, x15, x16, x17, x39, x110000, x110001, x110002, x110003, x110004, x110005, x110006 => if x39 = true then (if x5.length < 17592186044416 then (impl_states.l0 k x0 x1 (x5 ++ [1]) x15 x16 (wrap64 (x17 + 1))) else (none)) else (if x7 = true then (if x10 = true then ((impl_Field_isValue.f k x110000 x110001 x110002 x110003 x110004 x110005 x110006 x9).bind fun t118 => (if t118 = true then (if x5.length < 17592186044416 then (impl_states.l0 k x0 x1 (x5 ++ [x11]) x15 x16 (wrap64 (x17 + 1))) else (none)) else (if x5.length < 17592186044416 then (impl_states.l0 k x0 x1 (x5 ++ [2]) x15 x16 (wrap64 (x17 + 1))) else (none)))) else (if x5.length < 17592186044416 then (impl_states.l0 k x0 x1 (x5 ++ [x11]) x15 x16 (wrap64 (x17 + 1))) else (none))) else (if x5.length < 17592186044416 then (impl_states.l0 k x0 x1 (x5 ++ [x11]) x15 x16 (wrap64 (x17 + 1))) else (none)))
end
def impl_states.f (k : Nat) (l0 : List (S69)) (l1 : List (S58)) : Option (List Int) := (impl_visible.f k l0 l1).bind fun t104 => (impl_states.l0 k l0 l1 (([] : List Int)) t104 (t104.length : Int) 0)
set_option maxHeartbeats 8000000 in
set_option maxRecDepth 100000 in
theorem impl_states.calls (k : Nat) (A0 : Option Addr) (c0 : Nat) (l0 : List (S69)) (A1 : Option Addr) (c1 : Nat) (l1 : List (S58)) (r : List Int) (w : World) (hr0 : Kd.C k69 w A0 l0.length l0) (hc0 : l0.length ≤ c0) (hr1 : Kd.C k58 w A1 l1.length l1) (hc1 : l1.length ≤ c1) (hG : GE w) (h : impl_states.f k l0 l1 = some r) :
  Calls Tryd.prog 56 #[.slice A0 l0.length c0, .slice A1 l1.length c1] w fun e w' => ∃ v0_ : Value, e = .returned (v0_) ∧ Kd.R (Kd.int .i64) 3 w' w.heap.size (fun _ => True) v0_ r ∧ Below w.heap.size w w' := by
 (have hu69 := Tryd.underlying69); (have HR0 := Aside0.mk hr0); (have HC0 := Aside0.mk hc0); clear hr0 hc0; (have HR1 := Aside0.mk hr1); (have HC1 := Aside0.mk hc1); clear hr1 hc1; (have HG := Aside0.mk hG); clear hG; (have HB := Aside0.mk (Below.refl w.heap.size w)); (have H : ((impl_visible.f k l0 l1).bind fun t104 => (impl_states.l0 k l0 l1 (([] : List Int)) t104 (t104.length : Int) 0)) = some r := h); clear h; (obtain ⟨y101, hy101⟩ : ∃ y_ : List Int, y_ = (([] : List Int)) := ⟨_, rfl⟩); (replace H : ((impl_visible.f k l0 l1).bind fun t104 => (impl_states.l0 k l0 l1 y101 t104 (t104.length : Int) 0)) = some r := by first | (rw [hy101]; with_reducible exact H) | (have H2_ := (Option.bind_some _ _).symm.trans H; rw [hy101]; with_reducible exact H2_) | (have H2_ := (Option.bind_some _ _).symm.trans H; with_reducible exact H2_) | with_reducible exact H | (rw [hy101]; exact H) | exact H); (have Ny101 := Aside0.mk hy101); clear hy101; (replace H := Option.bind_eq_some_iff.mp H); (obtain ⟨t104, A30, H⟩ := H); (have A3 := Aside0.mk A30); clear A30; (have H' := Aside0.mk H); clear H; (go_enter Tryd.func56, Tryd.ntmps56); (go_wp2_with (first | ((with_reducible refine gate_dst (N := 12) rfl ?_); refine Kd.R_lit (Kd.int .i64) _ 3 ?hg (N := 12) ?hd (xs := ([] : List Int)) (inner := []) (ok := fun _ => True) (okp := fun _ => True) ?hr ?hp (fun _ hk => hk) trivial (Below.refl _ _) (Nat.le_refl _) (by simp) ?_; (case hd => rfl); (case hg => rfl); (case hr => first | (go_simp; done) | (go_simp; rfl)); (case hp => exact (Reps.none _ _)); intro v102 w4 ho5 hb hg_ hnew_; clear hg_ hnew_; (first | rw [← Ny101.out] at ho5 | (simp only [Int.reduceToNat] at ho5; rw [← Ny101.out] at ho5)); have hB_ := bz (by repeat (first | (with_reducible first | exact HB.out | apply bA | apply bN | apply bD) | exact HB.out)) hb; have n0_ := Aside0.mk (Kd.R_lower ho5 (below_size hB_)); have n1_ := Aside0.mk (below_step hB_ hb); clear HB; have HO103 := n0_; have HB := n1_; clear n0_ n1_ hB_ hb ho5) | ((with_reducible refine gate_callee (f := 64) rfl ?_); refine gL (some 15) Tryd.func64 #[.slice A0 l0.length c0, .slice A1 l1.length c1] ?_; (with_reducible refine (impl_visible.calls k _ _ l0 _ _ l1 t104 _ ?side1 ?side2 ?side3 ?side4 A3.out).mono ?_); (case side1 => repeat (first | exact (Kd.C_below HR0.out HB.out) | (with_reducible first | refine cA ?_ _ | refine cN ?_ _ | refine cD ?_))); (case side2 => exact HC0.out); (case side3 => repeat (first | exact (Kd.C_below HR1.out HB.out) | (with_reducible first | refine cA ?_ _ | refine cN ?_ _ | refine cD ?_))); (case side4 => exact HC1.out); rintro e w6 ⟨v105, rfl, ho0, hb⟩; refine ⟨_, rfl, ?_⟩; have n0_ := Aside0.mk (Kd.R_below (by (with_reducible repeat (first | apply rA | apply rN | apply rD)); exact HO103.out) hb); have n1_ := Aside0.mk (Kd.R_lower ho0 (below_size (by repeat (first | (with_reducible first | exact HB.out | apply bA | apply bN | apply bD) | exact HB.out)))); have n2_ := Aside0.mk (below_step (by repeat (first | (with_reducible first | exact HB.out | apply bA | apply bN | apply bD) | exact HB.out)) hb); clear HO103 HB; have HO103 := n0_; have HO106 := n1_; have HB := n2_; clear n0_ n1_ n2_; (try clear hb); (try clear hb2); (try clear hk); (try clear hi); (try clear ho0); obtain ⟨Ao7, co7, eo7⟩ := Kd.R_slice HO106.out; subst eo7))); (go_loopg [5, 17] k (fun kq v5 v17 w' => ∃ (x5_1 : List Int) (x17_1 : Int), v17 = .int .i64 x17_1 ∧ Aside0 (impl_states.l0 kq l0 l1 x5_1 t104 (t104.length : Int) x17_1 = some r) ∧ Aside0 (kq ≤ k) ∧ Aside0 (Kd.R (Kd.int .i64) 3 w' w.heap.size (fun _ => True) v5 x5_1) ∧ Aside0 (Kd.R Kd.bool 4 w' w.heap.size (fun _ => True) (.slice Ao7 t104.length co7) t104) ∧ Aside0 (Below w.heap.size w w')))
 case atStart => exact ⟨(y101), (0), (by first | rfl | (simp; done) | (simp [*]; done)), H', ⟨Nat.le_refl _⟩, ⟨by (with_reducible repeat (first | apply rA | apply rN | apply rD)); exact HO103.out⟩, ⟨by (with_reducible repeat (first | apply rA | apply rN | apply rD)); exact HO106.out⟩, ⟨by repeat (first | (with_reducible first | exact HB.out | apply bA | apply bN | apply bD) | exact HB.out)⟩⟩
 case round =>
  (clear H'); (try clear c1); (try clear p2); (try clear c5); (try clear c6); (obtain ⟨x5_1, x17_1, rfl, HA, HK1, HO_5, HO_15, HB⟩ := hrel)
  cases gk with
  | zero => exact absurd HA.out (by simp [impl_states.l0])
  | succ k1 =>
   (have H := HA.out); clear HA; (simp only [impl_states.l0] at H); (by_cases c8 : x17_1 < (t104.length : Int))
   ·rw [if_pos c8] at H
    (have c8b0 : decide (x17_1 < (t104.length : Int)) = true := decide_eq_true c8); clear c8; (by_cases c9 : 0 ≤ x17_1)
    ·rw [if_pos c9] at H
     (have c9b0 : decide (0 ≤ x17_1) = true := decide_eq_true c9); clear c9; (by_cases c10 : x17_1 < (t104.length : Int))
     ·rw [if_pos c10] at H
      (have c10b0 : decide (x17_1 < (t104.length : Int)) = true := decide_eq_true c10); clear c10; (by_cases c11 : x17_1 < (l0.length : Int))
      ·rw [if_pos c11] at H
       (have c11b0 : decide (x17_1 < (l0.length : Int)) = true := decide_eq_true c11); clear c11; (replace H := Option.bind_eq_some_iff.mp H); (obtain ⟨⟨t110, t111⟩, A120, H⟩ := H); (replace H : (if rdOf false t104 x17_1 = true then (impl_states.j1 k1 l0 l1 x5_1 (rdOf false t104 x17_1) t110 t111 0 t104 (t104.length : Int) x17_1 false ((rd_T69 l0 x17_1).f0) ((rd_T69 l0 x17_1).f1) ((rd_T69 l0 x17_1).f2) ((rd_T69 l0 x17_1).f3) ((rd_T69 l0 x17_1).f4) ((rd_T69 l0 x17_1).f5) ((rd_T69 l0 x17_1).f6)) else (impl_states.j1 k1 l0 l1 x5_1 (rdOf false t104 x17_1) t110 t111 0 t104 (t104.length : Int) x17_1 t111 ((rd_T69 l0 x17_1).f0) ((rd_T69 l0 x17_1).f1) ((rd_T69 l0 x17_1).f2) ((rd_T69 l0 x17_1).f3) ((rd_T69 l0 x17_1).f4) ((rd_T69 l0 x17_1).f5) ((rd_T69 l0 x17_1).f6))) = some r := H); (have A12 := Aside0.mk A120); clear A120; (have HC13 := Aside0.mk H); clear H; (have p107 : 0 ≤ (x17_1 : Int) := of_decide_eq_true (by first | (with_reducible assumption) | assumption)); (have q107 : x17_1 < (t104.length : Int) := of_decide_eq_true (by first | (with_reducible assumption) | assumption)); (obtain ⟨ad107, e107, hx107_0⟩ := Kd.at_bool (Kd.R_reads' HO_15.out).2.2 x17_1 p107 q107); (obtain ⟨bz107, hbz107⟩ : ∃ b_ : Bool, b_ = (rdOf false t104 x17_1) := ⟨_, rfl⟩); (rw [← hbz107] at hx107_0 HC13); (have HZ107 := Aside0.mk hbz107); clear hbz107; (cases e107); (replace p107 := eq_true p107); (replace q107 := eq_true q107); (have p108 : 0 ≤ (x17_1 : Int) := of_decide_eq_true (by first | (with_reducible assumption) | assumption)); (have q108 : x17_1 < (l0.length : Int) := of_decide_eq_true (by first | (with_reducible assumption) | assumption)); (obtain ⟨ad108, A108_4, c108_4, e108, hx108_0, hx108_1, hx108_2, hx108_3, hx108_4, hx108_5, hx108_6, hl108_4, hi108_4⟩ := at_T69 HR0.out x17_1 p108 q108); (cases e108); (replace hx108_0 := (HB.out.cell (bltc w _ hx108_0)).trans hx108_0); (replace hx108_1 := (HB.out.cell (bltc w _ hx108_1)).trans hx108_1); (replace hx108_2 := (HB.out.cell (bltc w _ hx108_2)).trans hx108_2); (replace hx108_3 := (HB.out.cell (bltc w _ hx108_3)).trans hx108_3); (replace hx108_4 := (HB.out.cell (bltc w _ hx108_4)).trans hx108_4); (replace hx108_5 := (HB.out.cell (bltc w _ hx108_5)).trans hx108_5); (replace hx108_6 := (HB.out.cell (bltc w _ hx108_6)).trans hx108_6); (have HR108_4 := Aside0.mk hi108_4); (have HC108_4 := Aside0.mk hl108_4); clear hi108_4 hl108_4; (replace p108 := eq_true p108); (replace q108 := eq_true q108)
       go_upto_region 8 with (first | ((with_reducible refine gate_dst (N := 8) rfl ?_); refine box_event ?hg (N := 8) ?hd (cs := #[.string (⟨#[]⟩ : ByteArray), .int .i64 0, .int .i64 0, .int .i64 0, .slice none 0 0, .bool false, .string (⟨#[]⟩ : ByteArray)]) (t := 69) ?hr ?_; (case hd => rfl); (case hg => rfl); (case hr => first | (go_simp; done) | (go_simp; rfl)); intro gb109 hg w14 hbox hb; have n0_ := Aside0.mk (Kd.R_below (by (with_reducible repeat (first | apply rA | apply rN | apply rD)); exact HO_5.out) hb); have n1_ := Aside0.mk (Kd.R_below (by (with_reducible repeat (first | apply rA | apply rN | apply rD)); exact HO_15.out) hb); have hB_ := bz (by repeat (first | (with_reducible first | exact HB.out | apply bA | apply bN | apply bD) | exact HB.out)) hb; have n2_ := Aside0.mk (below_step hB_ hb); have n3_ := Aside0.mk (hbox); have n4_ := Aside0.mk ((by rw [hg]; exact (below_size hB_) : w.heap.size ≤ gb109)); have n5_ := n4_; clear HO_5 HO_15 HB; have HO_5 := n0_; have HO_15 := n1_; have HB := n2_; have BK109 := n3_; have GW109 := n4_; have GE109 := n5_; clear n0_ n1_ n2_ n3_ n4_ n5_ hB_ hb hbox hg; have hcz15_0 := cz BK109.out 0; have hcz15_1 := cz BK109.out 1; have hcz15_2 := cz BK109.out 2; have hcz15_3 := cz BK109.out 3; have hcz15_4 := cz BK109.out 4; have hcz15_5 := cz BK109.out 5; have hcz15_6 := cz BK109.out 6; have hfz15_0 := blk_frozen BK109.out 0; have hfz15_1 := blk_frozen BK109.out 1; have hfz15_2 := blk_frozen BK109.out 2; have hfz15_3 := blk_frozen BK109.out 3; have hfz15_4 := blk_frozen BK109.out 4; have hfz15_5 := blk_frozen BK109.out 5; have hfz15_6 := blk_frozen BK109.out 6) | ((with_reducible refine gate_callee (f := 70) rfl ?_); refine gL (some 30) Tryd.func70 #[.slice A1 l1.length c1, .string ((rd_T69 l0 x17_1).f0)] ?_; (with_reducible refine (impl_answerOf.calls _ _ l1 ((rd_T69 l0 x17_1).f0) t110 t111 _ ?side1 ?side2 A12.out).mono ?_); (case side1 => exact Kd.C_below HR1.out (by repeat (first | (with_reducible first | exact HB.out | apply bA | apply bN | apply bD | refine below_set ?_ GE109.out) | exact HB.out))); (case side2 => exact HC1.out); rintro e w16 ⟨rfl, hb⟩; refine ⟨_, rfl, ?_⟩; have n0_ := Aside0.mk (Kd.R_below (by (with_reducible repeat (first | apply rA | apply rN | apply rD)); exact (Kd.R_mono (Kd.R_far (p := ⟨gb109, 6, none⟩) (Kd.R_far (p := ⟨gb109, 5, none⟩) (Kd.R_far (p := ⟨gb109, 4, none⟩) (Kd.R_far (p := ⟨gb109, 3, none⟩) (Kd.R_far (p := ⟨gb109, 2, none⟩) (Kd.R_far (p := ⟨gb109, 1, none⟩) (Kd.R_far (p := ⟨gb109, 0, none⟩) (Kd.R_types HO_5.out BK109.out (by decide)) (fun _ hk => hk.2) (.string ((rd_T69 l0 x17_1).f0))) (fun _ hk => hk.2) (.int .i64 ((rd_T69 l0 x17_1).f1))) (fun _ hk => hk.2) (.int .i64 ((rd_T69 l0 x17_1).f2))) (fun _ hk => hk.2) (.int .i64 ((rd_T69 l0 x17_1).f3))) (fun _ hk => hk.2) (.slice A108_4 ((rd_T69 l0 x17_1).f4).length c108_4)) (fun _ hk => hk.2) (.bool ((rd_T69 l0 x17_1).f5))) (fun _ hk => hk.2) (.string ((rd_T69 l0 x17_1).f6))) (fun _ h_ => h_.1))) hb); have n1_ := Aside0.mk (Kd.R_below (by (with_reducible repeat (first | apply rA | apply rN | apply rD)); exact (Kd.R_mono (Kd.R_far (p := ⟨gb109, 6, none⟩) (Kd.R_far (p := ⟨gb109, 5, none⟩) (Kd.R_far (p := ⟨gb109, 4, none⟩) (Kd.R_far (p := ⟨gb109, 3, none⟩) (Kd.R_far (p := ⟨gb109, 2, none⟩) (Kd.R_far (p := ⟨gb109, 1, none⟩) (Kd.R_far (p := ⟨gb109, 0, none⟩) (Kd.R_types HO_15.out BK109.out (by decide)) (fun _ hk => hk.2) (.string ((rd_T69 l0 x17_1).f0))) (fun _ hk => hk.2) (.int .i64 ((rd_T69 l0 x17_1).f1))) (fun _ hk => hk.2) (.int .i64 ((rd_T69 l0 x17_1).f2))) (fun _ hk => hk.2) (.int .i64 ((rd_T69 l0 x17_1).f3))) (fun _ hk => hk.2) (.slice A108_4 ((rd_T69 l0 x17_1).f4).length c108_4)) (fun _ hk => hk.2) (.bool ((rd_T69 l0 x17_1).f5))) (fun _ hk => hk.2) (.string ((rd_T69 l0 x17_1).f6))) (fun _ h_ => h_.1))) hb); have n2_ := Aside0.mk (blk_below (g := gb109) (o := .cells #[.string ((rd_T69 l0 x17_1).f0), .int .i64 ((rd_T69 l0 x17_1).f1), .int .i64 ((rd_T69 l0 x17_1).f2), .int .i64 ((rd_T69 l0 x17_1).f3), .slice A108_4 ((rd_T69 l0 x17_1).f4).length c108_4, .bool ((rd_T69 l0 x17_1).f5), .string ((rd_T69 l0 x17_1).f6)] 69 (0, 0)) (by (with_reducible repeat (first | refine kN ?_ _ | refine kD ?_ | refine kA ?_ _)); refine blk_put (cs := #[.string ((rd_T69 l0 x17_1).f0), .int .i64 ((rd_T69 l0 x17_1).f1), .int .i64 ((rd_T69 l0 x17_1).f2), .int .i64 ((rd_T69 l0 x17_1).f3), .slice A108_4 ((rd_T69 l0 x17_1).f4).length c108_4, .bool ((rd_T69 l0 x17_1).f5), .string (⟨#[]⟩ : ByteArray)]) ?_ 6 _ rfl; (with_reducible repeat (first | refine kN ?_ _ | refine kD ?_ | refine kA ?_ _)); refine blk_put (cs := #[.string ((rd_T69 l0 x17_1).f0), .int .i64 ((rd_T69 l0 x17_1).f1), .int .i64 ((rd_T69 l0 x17_1).f2), .int .i64 ((rd_T69 l0 x17_1).f3), .slice A108_4 ((rd_T69 l0 x17_1).f4).length c108_4, .bool false, .string (⟨#[]⟩ : ByteArray)]) ?_ 5 _ rfl; (with_reducible repeat (first | refine kN ?_ _ | refine kD ?_ | refine kA ?_ _)); refine blk_put (cs := #[.string ((rd_T69 l0 x17_1).f0), .int .i64 ((rd_T69 l0 x17_1).f1), .int .i64 ((rd_T69 l0 x17_1).f2), .int .i64 ((rd_T69 l0 x17_1).f3), .slice none 0 0, .bool false, .string (⟨#[]⟩ : ByteArray)]) ?_ 4 _ rfl; (with_reducible repeat (first | refine kN ?_ _ | refine kD ?_ | refine kA ?_ _)); refine blk_put (cs := #[.string ((rd_T69 l0 x17_1).f0), .int .i64 ((rd_T69 l0 x17_1).f1), .int .i64 ((rd_T69 l0 x17_1).f2), .int .i64 0, .slice none 0 0, .bool false, .string (⟨#[]⟩ : ByteArray)]) ?_ 3 _ rfl; (with_reducible repeat (first | refine kN ?_ _ | refine kD ?_ | refine kA ?_ _)); refine blk_put (cs := #[.string ((rd_T69 l0 x17_1).f0), .int .i64 ((rd_T69 l0 x17_1).f1), .int .i64 0, .int .i64 0, .slice none 0 0, .bool false, .string (⟨#[]⟩ : ByteArray)]) ?_ 2 _ rfl; (with_reducible repeat (first | refine kN ?_ _ | refine kD ?_ | refine kA ?_ _)); refine blk_put (cs := #[.string ((rd_T69 l0 x17_1).f0), .int .i64 0, .int .i64 0, .int .i64 0, .slice none 0 0, .bool false, .string (⟨#[]⟩ : ByteArray)]) ?_ 1 _ rfl; (with_reducible repeat (first | refine kN ?_ _ | refine kD ?_ | refine kA ?_ _)); refine blk_put (cs := #[.string (⟨#[]⟩ : ByteArray), .int .i64 0, .int .i64 0, .int .i64 0, .slice none 0 0, .bool false, .string (⟨#[]⟩ : ByteArray)]) ?_ 0 _ rfl; (with_reducible repeat (first | refine kN ?_ _ | refine kD ?_ | refine kA ?_ _)); exact BK109.out) hb); have n3_ := Aside0.mk (below_step (by repeat (first | (with_reducible first | exact HB.out | apply bA | apply bN | apply bD | refine below_set ?_ GE109.out) | exact HB.out)) hb); clear HO_5 HO_15 BK109 HB; have HO_5 := n0_; have HO_15 := n1_; have BK109 := n2_; have HB := n3_; clear n0_ n1_ n2_ n3_; (try clear hb); (try clear hb2); (try clear hk); (try clear hi)))
       ((try simp only [Act.put, aS1, aS2, aS3])); (go_cut [33] (fun v33 wc => ∃ (kq : Nat) (x33_12 : Bool), v33 = .bool x33_12 ∧ Aside0 (impl_states.j1 kq l0 l1 x5_1 bz107 t110 t111 0 t104 (t104.length : Int) x17_1 x33_12 ((rd_T69 l0 x17_1).f0) ((rd_T69 l0 x17_1).f1) ((rd_T69 l0 x17_1).f2) ((rd_T69 l0 x17_1).f3) ((rd_T69 l0 x17_1).f4) ((rd_T69 l0 x17_1).f5) ((rd_T69 l0 x17_1).f6) = some r) ∧ Aside0 (kq ≤ k1) ∧ Aside0 (Kd.R (Kd.int .i64) 3 wc w.heap.size (fun _ => True) u5 x5_1) ∧ Aside0 (Kd.R Kd.bool 4 wc w.heap.size (fun _ => True) (.slice (some ad107) t104.length co7) t104) ∧ Aside0 (wc.heap[gb109]? = some (.cells #[.string ((rd_T69 l0 x17_1).f0), .int .i64 ((rd_T69 l0 x17_1).f1), .int .i64 ((rd_T69 l0 x17_1).f2), .int .i64 ((rd_T69 l0 x17_1).f3), (.slice A108_4 ((rd_T69 l0 x17_1).f4).length c108_4), .bool ((rd_T69 l0 x17_1).f5), .string ((rd_T69 l0 x17_1).f6)] 69 (0, 0))) ∧ Aside0 (Below w.heap.size w wc)))
       case first =>
        (have H := HC13.out); clear HC13; (replace H : (if bz107 = true then (impl_states.j1 k1 l0 l1 x5_1 bz107 t110 t111 0 t104 (t104.length : Int) x17_1 false ((rd_T69 l0 x17_1).f0) ((rd_T69 l0 x17_1).f1) ((rd_T69 l0 x17_1).f2) ((rd_T69 l0 x17_1).f3) ((rd_T69 l0 x17_1).f4) ((rd_T69 l0 x17_1).f5) ((rd_T69 l0 x17_1).f6)) else (impl_states.j1 k1 l0 l1 x5_1 bz107 t110 t111 0 t104 (t104.length : Int) x17_1 t111 ((rd_T69 l0 x17_1).f0) ((rd_T69 l0 x17_1).f1) ((rd_T69 l0 x17_1).f2) ((rd_T69 l0 x17_1).f3) ((rd_T69 l0 x17_1).f4) ((rd_T69 l0 x17_1).f5) ((rd_T69 l0 x17_1).f6))) = some r := H); (by_cases c18 : bz107 = true)
        ·subst c18
         (rw [if_pos rfl] at H); (have H' := Aside0.mk H); clear H; (go_wp2); (go_meet)
         case rel => exact ⟨_, (false), (by first | rfl | (simp; done) | (simp [*]; done)), H', ⟨by have := HK1.out; first | omega | exact Nat.le_refl _⟩, ⟨by (with_reducible repeat (first | apply rA | apply rN | apply rD)); exact HO_5.out⟩, ⟨by (with_reducible repeat (first | apply rA | apply rN | apply rD)); exact HO_15.out⟩, ⟨by (with_reducible repeat (first | refine kN ?_ _ | refine kD ?_ | refine kA ?_ _)); exact BK109.out⟩, ⟨by repeat (first | (with_reducible first | exact HB.out | apply bA | apply bN | apply bD | refine below_set ?_ GE109.out) | exact HB.out)⟩⟩
        ·replace c18 := Bool.eq_false_iff.mpr c18
         subst c18; (rw [if_neg (show ¬ (false = true) by decide)] at H); (have H' := Aside0.mk H); clear H; (go_wp2); (go_meet)
         case rel => exact ⟨_, (t111), (by first | rfl | (simp; done) | (simp [*]; done)), H', ⟨by have := HK1.out; first | omega | exact Nat.le_refl _⟩, ⟨by (with_reducible repeat (first | apply rA | apply rN | apply rD)); exact HO_5.out⟩, ⟨by (with_reducible repeat (first | apply rA | apply rN | apply rD)); exact HO_15.out⟩, ⟨by (with_reducible repeat (first | refine kN ?_ _ | refine kD ?_ | refine kA ?_ _)); exact BK109.out⟩, ⟨by repeat (first | (with_reducible first | exact HB.out | apply bA | apply bN | apply bD | refine below_set ?_ GE109.out) | exact HB.out)⟩⟩
       case rest =>
        clear HC13; (try clear c1); (try clear p1); (try clear q1); (try clear hx1); (try clear p2); (try clear c5); (try clear c6); (try clear c7); (try clear c8); (try clear c8b0); (try clear c9); (try clear c9b0); (try clear c10); (try clear c10b0); (try clear p10); (try clear q10); (try clear hx10); (try clear c11); (try clear c11b0); (try clear q17); (try clear c18); (try clear hcz15_0); (try clear hcz15_1); (try clear hcz15_2); (try clear hcz15_3); (try clear hcz15_4); (try clear hcz15_5); (try clear hcz15_6); (try clear hfz15_0); (try clear hfz15_1); (try clear hfz15_2); (try clear hfz15_3); (try clear hfz15_4); (try clear hfz15_5); (try clear hfz15_6); (try clear hx107_0); (try clear hx108_0); (try clear hx108_1); (try clear hx108_2); (try clear hx108_3); (try clear hx108_4); (try clear hx108_5); (try clear hx108_6); (try clear p107); (try clear p108); (try clear p2); (try clear q107); (try clear q108); (obtain ⟨kq, x33_12, rfl, HA, HJ12, HO_5, HO_15, BK109, HB⟩ := hcut)
        cases kq with
        | zero => exact absurd HA.out (by simp [impl_states.j1])
        | succ kj12 =>
         (have H := HA.out); clear HA; (simp only [impl_states.j1] at H); (by_cases c19 : x33_12 = true)
         ·subst c19
          (rw [if_pos rfl] at H); (by_cases c20 : x5_1.length < 17592186044416)
          ·rw [if_pos c20] at H
           (have LMc20 := Aside0.mk c20); clear c20; (obtain ⟨y112, hy112⟩ : ∃ y_ : List Int, y_ = (x5_1 ++ [3]) := ⟨_, rfl⟩); (replace H : (impl_states.l0 kj12 l0 l1 y112 t104 (t104.length : Int) (wrap64 (x17_1 + 1))) = some r := by first | (rw [hy112]; with_reducible exact H) | (have H2_ := (Option.bind_some _ _).symm.trans H; rw [hy112]; with_reducible exact H2_) | (have H2_ := (Option.bind_some _ _).symm.trans H; with_reducible exact H2_) | with_reducible exact H | (rw [hy112]; exact H) | exact H); (have Ny112 := Aside0.mk hy112); clear hy112; (have H' := Aside0.mk H); clear H; (go_wp2_with (first | ((with_reducible refine gate_builtin (b := .append) (xs := #[.tmp 60, .tmp 62]) rfl ?_); at_builtin; refine Kd.R_append (Kd.int .i64) (w0 := w) w.heap.size rfl (.tmp 60) (.tmp 62) 38 3 (.int .i64 0) 8 rfl Tryd.underlying38 info3 rfl (by decide) (by omega) u5 x5_1 3 [.int .i64 3] (fun _ => True) (fun _ => False) rfl rfl ?aP (fun _ hk => hk.elim) ?aF ?aO ?aB ?aS ?aL ?_; (case aP => exact rfl); (case aB => exact (by repeat (first | (with_reducible first | exact HB.out | apply bA | apply bN | apply bD | refine below_set ?_ GE109.out) | exact HB.out))); (case aF => exact (fun _ _ => trivial)); (case aO => exact (by (with_reducible repeat (first | apply rA | apply rN | apply rD)); exact HO_5.out)); (case aS => exact (below_size (by repeat (first | (with_reducible first | exact HB.out | apply bA | apply bN | apply bD | refine below_set ?_ GE109.out) | exact HB.out)))); (case aL => have := LMc20.out; omega); intro v113 w21 ho hb hg hat; rw [← Ny112.out] at ho; have n0_ := Aside0.mk (Kd.R_over' (by (with_reducible repeat (first | apply rA | apply rN | apply rD)); exact HO_15.out) (Kd.R_typed (by (with_reducible repeat (first | apply rA | apply rN | apply rD)); exact HO_5.out)) (by decide) hg); have n1_ := Aside0.mk (blk_grown (by (with_reducible repeat (first | refine kN ?_ _ | refine kD ?_ | refine kA ?_ _)); exact BK109.out) hg (Kd.R_ne HO_5.out BK109.out (by decide))); have n2_ := Aside0.mk (hb); have n3_ := Aside0.mk (ho); clear HO_15 BK109 HB HO_5; have HO_15 := n0_; have BK109 := n1_; have HB := n2_; have HO114 := n3_; clear n0_ n1_ n2_ n3_ ho hb hg hat))); go_roundg kj12
           case measure => have := HK1.out; have := HJ12.out; omega
           case rel => exact ⟨(y112), (wrap64 (x17_1 + 1)), (by first | rfl | (simp; done) | (simp [*]; done)), H', ⟨by have := HK1.out; have := HJ12.out; omega⟩, ⟨by (with_reducible repeat (first | apply rA | apply rN | apply rD)); exact HO114.out⟩, ⟨by (with_reducible repeat (first | apply rA | apply rN | apply rD)); exact HO_15.out⟩, ⟨by repeat (first | (with_reducible first | exact HB.out | apply bA | apply bN | apply bD | refine below_set ?_ GE109.out) | exact HB.out)⟩⟩
          ·rw [if_neg c20] at H
           exact absurd H (by simp)
         ·replace c19 := Bool.eq_false_iff.mpr c19
          subst c19; (rw [if_neg (show ¬ (false = true) by decide)] at H); (have HC22 := Aside0.mk H); clear H; (go_upto_region 10 with (fail)); (go_cut [39] (fun v39 wc => ∃ (kq : Nat) (x39_21 : Bool), v39 = .bool x39_21 ∧ Aside0 (impl_states.j2 kq l0 l1 x5_1 bz107 t110 t111 0 t104 (t104.length : Int) x17_1 x39_21 ((rd_T69 l0 x17_1).f0) ((rd_T69 l0 x17_1).f1) ((rd_T69 l0 x17_1).f2) ((rd_T69 l0 x17_1).f3) ((rd_T69 l0 x17_1).f4) ((rd_T69 l0 x17_1).f5) ((rd_T69 l0 x17_1).f6) = some r) ∧ Aside0 (kq ≤ kj12) ∧ Aside0 (Kd.R (Kd.int .i64) 3 wc w.heap.size (fun _ => True) u5 x5_1) ∧ Aside0 (Kd.R Kd.bool 4 wc w.heap.size (fun _ => True) (.slice (some ad107) t104.length co7) t104) ∧ Aside0 (wc.heap[gb109]? = some (.cells #[.string ((rd_T69 l0 x17_1).f0), .int .i64 ((rd_T69 l0 x17_1).f1), .int .i64 ((rd_T69 l0 x17_1).f2), .int .i64 ((rd_T69 l0 x17_1).f3), (.slice A108_4 ((rd_T69 l0 x17_1).f4).length c108_4), .bool ((rd_T69 l0 x17_1).f5), .string ((rd_T69 l0 x17_1).f6)] 69 (0, 0))) ∧ Aside0 (Below w.heap.size w wc)))
          case first =>
           (have H := HC22.out); clear HC22; (replace H : (if (bz107) = true then (if ((rd_T69 l0 x17_1).f5) = true then (impl_states.j2 kj12 l0 l1 x5_1 (bz107) t110 t111 0 t104 (t104.length : Int) x17_1 (!t111) ((rd_T69 l0 x17_1).f0) ((rd_T69 l0 x17_1).f1) ((rd_T69 l0 x17_1).f2) ((rd_T69 l0 x17_1).f3) ((rd_T69 l0 x17_1).f4) ((rd_T69 l0 x17_1).f5) ((rd_T69 l0 x17_1).f6)) else (impl_states.j2 kj12 l0 l1 x5_1 (bz107) t110 t111 0 t104 (t104.length : Int) x17_1 false ((rd_T69 l0 x17_1).f0) ((rd_T69 l0 x17_1).f1) ((rd_T69 l0 x17_1).f2) ((rd_T69 l0 x17_1).f3) ((rd_T69 l0 x17_1).f4) ((rd_T69 l0 x17_1).f5) ((rd_T69 l0 x17_1).f6))) else (impl_states.j2 kj12 l0 l1 x5_1 (bz107) t110 t111 0 t104 (t104.length : Int) x17_1 false ((rd_T69 l0 x17_1).f0) ((rd_T69 l0 x17_1).f1) ((rd_T69 l0 x17_1).f2) ((rd_T69 l0 x17_1).f3) ((rd_T69 l0 x17_1).f4) ((rd_T69 l0 x17_1).f5) ((rd_T69 l0 x17_1).f6))) = some r := H); (by_cases c24 : (bz107) = true)
           ·subst c24
            (rw [if_pos rfl] at H); (by_cases c25 : ((rd_T69 l0 x17_1).f5) = true)
            ·rw [if_pos c25] at H
             (have c25b0 : ((rd_T69 l0 x17_1).f5) = true := c25); clear c25; (have H' := Aside0.mk H); clear H; (have hcz26_0 := cz BK109.out 0); (have hcz26_1 := cz BK109.out 1); (have hcz26_2 := cz BK109.out 2); (have hcz26_3 := cz BK109.out 3); (have hcz26_4 := cz BK109.out 4); (have hcz26_5 := cz BK109.out 5); (have hcz26_6 := cz BK109.out 6); (have hfz26_0 := blk_frozen BK109.out 0); (have hfz26_1 := blk_frozen BK109.out 1); (have hfz26_2 := blk_frozen BK109.out 2); (have hfz26_3 := blk_frozen BK109.out 3); (have hfz26_4 := blk_frozen BK109.out 4); (have hfz26_5 := blk_frozen BK109.out 5); (have hfz26_6 := blk_frozen BK109.out 6); (go_wp2); (go_meet)
             case rel => exact ⟨_, (!t111), (by first | rfl | (simp; done) | (simp [*]; done)), H', ⟨by have := HK1.out; have := HJ12.out; first | omega | exact Nat.le_refl _⟩, ⟨by (with_reducible repeat (first | apply rA | apply rN | apply rD)); exact HO_5.out⟩, ⟨by (with_reducible repeat (first | apply rA | apply rN | apply rD)); exact HO_15.out⟩, ⟨by (with_reducible repeat (first | refine kN ?_ _ | refine kD ?_ | refine kA ?_ _)); exact BK109.out⟩, ⟨by repeat (first | (with_reducible first | exact HB.out | apply bA | apply bN | apply bD | refine below_set ?_ GE109.out) | exact HB.out)⟩⟩
            ·rw [if_neg c25] at H
             (have c25b0 : ((rd_T69 l0 x17_1).f5) = false := by simpa using c25); clear c25; (have H' := Aside0.mk H); clear H; (have hcz27_0 := cz BK109.out 0); (have hcz27_1 := cz BK109.out 1); (have hcz27_2 := cz BK109.out 2); (have hcz27_3 := cz BK109.out 3); (have hcz27_4 := cz BK109.out 4); (have hcz27_5 := cz BK109.out 5); (have hcz27_6 := cz BK109.out 6); (have hfz27_0 := blk_frozen BK109.out 0); (have hfz27_1 := blk_frozen BK109.out 1); (have hfz27_2 := blk_frozen BK109.out 2); (have hfz27_3 := blk_frozen BK109.out 3); (have hfz27_4 := blk_frozen BK109.out 4); (have hfz27_5 := blk_frozen BK109.out 5); (have hfz27_6 := blk_frozen BK109.out 6); (go_wp2); (go_meet)
             case rel => exact ⟨_, (false), (by first | rfl | (simp; done) | (simp [*]; done)), H', ⟨by have := HK1.out; have := HJ12.out; first | omega | exact Nat.le_refl _⟩, ⟨by (with_reducible repeat (first | apply rA | apply rN | apply rD)); exact HO_5.out⟩, ⟨by (with_reducible repeat (first | apply rA | apply rN | apply rD)); exact HO_15.out⟩, ⟨by (with_reducible repeat (first | refine kN ?_ _ | refine kD ?_ | refine kA ?_ _)); exact BK109.out⟩, ⟨by repeat (first | (with_reducible first | exact HB.out | apply bA | apply bN | apply bD | refine below_set ?_ GE109.out) | exact HB.out)⟩⟩
           ·replace c24 := Bool.eq_false_iff.mpr c24
            subst c24; (rw [if_neg (show ¬ (false = true) by decide)] at H); (have H' := Aside0.mk H); clear H; (go_wp2); (go_meet)
            case rel => exact ⟨_, (false), (by first | rfl | (simp; done) | (simp [*]; done)), H', ⟨by have := HK1.out; have := HJ12.out; first | omega | exact Nat.le_refl _⟩, ⟨by (with_reducible repeat (first | apply rA | apply rN | apply rD)); exact HO_5.out⟩, ⟨by (with_reducible repeat (first | apply rA | apply rN | apply rD)); exact HO_15.out⟩, ⟨by (with_reducible repeat (first | refine kN ?_ _ | refine kD ?_ | refine kA ?_ _)); exact BK109.out⟩, ⟨by repeat (first | (with_reducible first | exact HB.out | apply bA | apply bN | apply bD | refine below_set ?_ GE109.out) | exact HB.out)⟩⟩
          case rest =>
           clear HC22; (try clear c1); (try clear p1); (try clear q1); (try clear hx1); (try clear c2); (try clear p2); (try clear q2); (try clear c5); (try clear c6); (try clear p6); (try clear c7); (try clear c8); (try clear c8b0); (try clear c9); (try clear c9b0); (try clear c10); (try clear c10b0); (try clear p10); (try clear q10); (try clear hx10); (try clear c11); (try clear c11b0); (try clear q17); (try clear c18); (try clear c19); (try clear c20); (try clear q23); (try clear c24); (try clear c24b0); (try clear c25); (try clear c25b0); (try clear hcz15_0); (try clear hcz15_1); (try clear hcz15_2); (try clear hcz15_3); (try clear hcz15_4); (try clear hcz15_5); (try clear hcz15_6); (try clear hcz26_0); (try clear hcz26_1); (try clear hcz26_2); (try clear hcz26_3); (try clear hcz26_4); (try clear hcz26_5); (try clear hcz26_6); (try clear hcz27_0); (try clear hcz27_1); (try clear hcz27_2); (try clear hcz27_3); (try clear hcz27_4); (try clear hcz27_5); (try clear hcz27_6); (try clear hfz15_0); (try clear hfz15_1); (try clear hfz15_2); (try clear hfz15_3); (try clear hfz15_4); (try clear hfz15_5); (try clear hfz15_6); (try clear hfz26_0); (try clear hfz26_1); (try clear hfz26_2); (try clear hfz26_3); (try clear hfz26_4); (try clear hfz26_5); (try clear hfz26_6); (try clear hfz27_0); (try clear hfz27_1); (try clear hfz27_2); (try clear hfz27_3); (try clear hfz27_4); (try clear hfz27_5); (try clear hfz27_6); (try clear hx107_0); (try clear hx108_0); (try clear hx108_1); (try clear hx108_2); (try clear hx108_3); (try clear hx108_4); (try clear hx108_5); (try clear hx108_6); (try clear p1); (try clear p10); (try clear p107); (try clear p108); (try clear p2); (try clear q1); (try clear q10); (try clear q107); (try clear q108); (try clear q17); (obtain ⟨kq, x39_21, rfl, HA, HJ21, HO_5, HO_15, BK109, HB⟩ := hcut)
           cases kq with
           | zero => exact absurd HA.out (by simp [impl_states.j2])
           | succ kj21 =>
            (have H := HA.out); clear HA; (simp only [impl_states.j2] at H); (by_cases c28 : x39_21 = true)
            ·subst c28
             (rw [if_pos rfl] at H); (by_cases c29 : x5_1.length < 17592186044416)
             ·rw [if_pos c29] at H
              (have LMc29 := Aside0.mk c29); clear c29; (obtain ⟨y115, hy115⟩ : ∃ y_ : List Int, y_ = (x5_1 ++ [1]) := ⟨_, rfl⟩); (replace H : (impl_states.l0 kj21 l0 l1 y115 t104 (t104.length : Int) (wrap64 (x17_1 + 1))) = some r := by first | (rw [hy115]; with_reducible exact H) | (have H2_ := (Option.bind_some _ _).symm.trans H; rw [hy115]; with_reducible exact H2_) | (have H2_ := (Option.bind_some _ _).symm.trans H; with_reducible exact H2_) | with_reducible exact H | (rw [hy115]; exact H) | exact H); (have Ny115 := Aside0.mk hy115); clear hy115; (have H' := Aside0.mk H); clear H; (go_wp2_with (first | ((with_reducible refine gate_builtin (b := .append) (xs := #[.tmp 60, .tmp 62]) rfl ?_); at_builtin; refine Kd.R_append (Kd.int .i64) (w0 := w) w.heap.size rfl (.tmp 60) (.tmp 62) 38 3 (.int .i64 0) 8 rfl Tryd.underlying38 info3 rfl (by decide) (by omega) u5 x5_1 1 [.int .i64 1] (fun _ => True) (fun _ => False) rfl rfl ?aP (fun _ hk => hk.elim) ?aF ?aO ?aB ?aS ?aL ?_; (case aP => exact rfl); (case aB => exact (by repeat (first | (with_reducible first | exact HB.out | apply bA | apply bN | apply bD | refine below_set ?_ GE109.out) | exact HB.out))); (case aF => exact (fun _ _ => trivial)); (case aO => exact (by (with_reducible repeat (first | apply rA | apply rN | apply rD)); exact HO_5.out)); (case aS => exact (below_size (by repeat (first | (with_reducible first | exact HB.out | apply bA | apply bN | apply bD | refine below_set ?_ GE109.out) | exact HB.out)))); (case aL => have := LMc29.out; omega); intro v116 w30 ho hb hg hat; rw [← Ny115.out] at ho; have n0_ := Aside0.mk (Kd.R_over' (by (with_reducible repeat (first | apply rA | apply rN | apply rD)); exact HO_15.out) (Kd.R_typed (by (with_reducible repeat (first | apply rA | apply rN | apply rD)); exact HO_5.out)) (by decide) hg); have n1_ := Aside0.mk (blk_grown (by (with_reducible repeat (first | refine kN ?_ _ | refine kD ?_ | refine kA ?_ _)); exact BK109.out) hg (Kd.R_ne HO_5.out BK109.out (by decide))); have n2_ := Aside0.mk (hb); have n3_ := Aside0.mk (ho); clear HO_15 BK109 HB HO_5; have HO_15 := n0_; have BK109 := n1_; have HB := n2_; have HO117 := n3_; clear n0_ n1_ n2_ n3_ ho hb hg hat))); go_roundg kj21
              case measure => have := HK1.out; have := HJ12.out; have := HJ21.out; omega
              case rel => exact ⟨(y115), (wrap64 (x17_1 + 1)), (by first | rfl | (simp; done) | (simp [*]; done)), H', ⟨by have := HK1.out; have := HJ12.out; have := HJ21.out; omega⟩, ⟨by (with_reducible repeat (first | apply rA | apply rN | apply rD)); exact HO117.out⟩, ⟨by (with_reducible repeat (first | apply rA | apply rN | apply rD)); exact HO_15.out⟩, ⟨by repeat (first | (with_reducible first | exact HB.out | apply bA | apply bN | apply bD | refine below_set ?_ GE109.out) | exact HB.out)⟩⟩
             ·rw [if_neg c29] at H
              exact absurd H (by simp)
            ·replace c28 := Bool.eq_false_iff.mpr c28
             subst c28; (rw [if_neg (show ¬ (false = true) by decide)] at H); (replace H : (if (bz107) = true then (if t111 = true then ((impl_Field_isValue.f kj21 ((rd_T69 l0 x17_1).f0) ((rd_T69 l0 x17_1).f1) ((rd_T69 l0 x17_1).f2) ((rd_T69 l0 x17_1).f3) ((rd_T69 l0 x17_1).f4) ((rd_T69 l0 x17_1).f5) ((rd_T69 l0 x17_1).f6) t110).bind fun t118 => (if t118 = true then (if x5_1.length < 17592186044416 then (impl_states.l0 kj21 l0 l1 (x5_1 ++ [0]) t104 (t104.length : Int) (wrap64 (x17_1 + 1))) else (none)) else (if x5_1.length < 17592186044416 then (impl_states.l0 kj21 l0 l1 (x5_1 ++ [2]) t104 (t104.length : Int) (wrap64 (x17_1 + 1))) else (none)))) else (if x5_1.length < 17592186044416 then (impl_states.l0 kj21 l0 l1 (x5_1 ++ [0]) t104 (t104.length : Int) (wrap64 (x17_1 + 1))) else (none))) else (if x5_1.length < 17592186044416 then (impl_states.l0 kj21 l0 l1 (x5_1 ++ [0]) t104 (t104.length : Int) (wrap64 (x17_1 + 1))) else (none))) = some r := H); (by_cases c32 : (bz107) = true)
             ·subst c32
              (rw [if_pos rfl] at H); (by_cases c33 : t111 = true)
              ·subst c33
               (rw [if_pos rfl] at H); (replace H := Option.bind_eq_some_iff.mp H); (obtain ⟨t118, A340, H⟩ := H); (have A34 := Aside0.mk A340); clear A340; (by_cases c35 : t118 = true)
               ·subst c35
                (rw [if_pos rfl] at H); (by_cases c36 : x5_1.length < 17592186044416)
                ·rw [if_pos c36] at H
                 (have LMc36 := Aside0.mk c36); clear c36; (obtain ⟨y119, hy119⟩ : ∃ y_ : List Int, y_ = (x5_1 ++ [0]) := ⟨_, rfl⟩); (replace H : (impl_states.l0 kj21 l0 l1 y119 t104 (t104.length : Int) (wrap64 (x17_1 + 1))) = some r := by first | (rw [hy119]; with_reducible exact H) | (have H2_ := (Option.bind_some _ _).symm.trans H; rw [hy119]; with_reducible exact H2_) | (have H2_ := (Option.bind_some _ _).symm.trans H; with_reducible exact H2_) | with_reducible exact H | (rw [hy119]; exact H) | exact H); (have Ny119 := Aside0.mk hy119); clear hy119; (have H' := Aside0.mk H); clear H; (have hcz37_0 := cz BK109.out 0); (have hcz37_1 := cz BK109.out 1); (have hcz37_2 := cz BK109.out 2); (have hcz37_3 := cz BK109.out 3); (have hcz37_4 := cz BK109.out 4); (have hcz37_5 := cz BK109.out 5); (have hcz37_6 := cz BK109.out 6); (have hfz37_0 := blk_frozen BK109.out 0); (have hfz37_1 := blk_frozen BK109.out 1); (have hfz37_2 := blk_frozen BK109.out 2); (have hfz37_3 := blk_frozen BK109.out 3); (have hfz37_4 := blk_frozen BK109.out 4); (have hfz37_5 := blk_frozen BK109.out 5); (have hfz37_6 := blk_frozen BK109.out 6); (go_wp2_with (first | (go_at_call 94; (with_reducible refine (impl_Field_isValue.calls kj21 ((rd_T69 l0 x17_1).f0) ((rd_T69 l0 x17_1).f1) ((rd_T69 l0 x17_1).f2) ((rd_T69 l0 x17_1).f3) _ _ ((rd_T69 l0 x17_1).f4) ((rd_T69 l0 x17_1).f5) ((rd_T69 l0 x17_1).f6) t110 true _ ?side1 ?side2 ?side3 A34.out).mono ?_); (case side1 => repeat (first | exact (Kd.C_below HR108_4.out HB.out) | (with_reducible first | refine cA ?_ _ | refine cN ?_ _ | refine cD ?_))); (case side2 => exact HC108_4.out); (case side3 => first | exact GE.below HG.out (by repeat (first | (with_reducible first | exact HB.out | apply bA | apply bN | apply bD | refine below_set ?_ GE109.out) | exact HB.out)) | (repeat (first | exact HG.out | (with_reducible first | apply GE.drewN | apply GE.drew | apply GE.alloc)))); rintro e w38 ⟨rfl, hb⟩; have n0_ := Aside0.mk (Kd.R_below (by (with_reducible repeat (first | apply rA | apply rN | apply rD)); exact HO_5.out) hb); have n1_ := Aside0.mk (Kd.R_below (by (with_reducible repeat (first | apply rA | apply rN | apply rD)); exact HO_15.out) hb); have n2_ := Aside0.mk (blk_below (by (with_reducible repeat (first | refine kN ?_ _ | refine kD ?_ | refine kA ?_ _)); exact BK109.out) hb); have n3_ := Aside0.mk (below_step (by repeat (first | (with_reducible first | exact HB.out | apply bA | apply bN | apply bD | refine below_set ?_ GE109.out) | exact HB.out)) hb); clear HO_5 HO_15 BK109 HB; have HO_5 := n0_; have HO_15 := n1_; have BK109 := n2_; have HB := n3_; clear n0_ n1_ n2_ n3_; (try clear hb); (try clear hb2); (try clear hk); (try clear hi)) | ((with_reducible refine gate_builtin (b := .append) (xs := #[.tmp 60, .tmp 62]) rfl ?_); at_builtin; refine Kd.R_append (Kd.int .i64) (w0 := w) w.heap.size rfl (.tmp 60) (.tmp 62) 38 3 (.int .i64 0) 8 rfl Tryd.underlying38 info3 rfl (by decide) (by omega) u5 x5_1 0 [.int .i64 0] (fun _ => True) (fun _ => False) rfl rfl ?aP (fun _ hk => hk.elim) ?aF ?aO ?aB ?aS ?aL ?_; (case aP => exact rfl); (case aB => exact (by repeat (first | (with_reducible first | exact HB.out | apply bA | apply bN | apply bD | refine below_set ?_ GE109.out) | exact HB.out))); (case aF => exact (fun _ _ => trivial)); (case aO => exact (by (with_reducible repeat (first | apply rA | apply rN | apply rD)); exact HO_5.out)); (case aS => exact (below_size (by repeat (first | (with_reducible first | exact HB.out | apply bA | apply bN | apply bD | refine below_set ?_ GE109.out) | exact HB.out)))); (case aL => have := LMc36.out; omega); intro v120 w39 ho hb hg hat; rw [← Ny119.out] at ho; have n0_ := Aside0.mk (Kd.R_over' (by (with_reducible repeat (first | apply rA | apply rN | apply rD)); exact HO_15.out) (Kd.R_typed (by (with_reducible repeat (first | apply rA | apply rN | apply rD)); exact HO_5.out)) (by decide) hg); have n1_ := Aside0.mk (blk_grown (by (with_reducible repeat (first | refine kN ?_ _ | refine kD ?_ | refine kA ?_ _)); exact BK109.out) hg (Kd.R_ne HO_5.out BK109.out (by decide))); have n2_ := Aside0.mk (hb); have n3_ := Aside0.mk (ho); clear HO_15 BK109 HB HO_5; have HO_15 := n0_; have BK109 := n1_; have HB := n2_; have HO121 := n3_; clear n0_ n1_ n2_ n3_ ho hb hg hat))); go_roundg kj21
                 case measure => have := HK1.out; have := HJ12.out; have := HJ21.out; omega
                 case rel => exact ⟨(y119), (wrap64 (x17_1 + 1)), (by first | rfl | (simp; done) | (simp [*]; done)), H', ⟨by have := HK1.out; have := HJ12.out; have := HJ21.out; omega⟩, ⟨by (with_reducible repeat (first | apply rA | apply rN | apply rD)); exact HO121.out⟩, ⟨by (with_reducible repeat (first | apply rA | apply rN | apply rD)); exact HO_15.out⟩, ⟨by repeat (first | (with_reducible first | exact HB.out | apply bA | apply bN | apply bD | refine below_set ?_ GE109.out) | exact HB.out)⟩⟩
                ·rw [if_neg c36] at H
                 exact absurd H (by simp)
               ·replace c35 := Bool.eq_false_iff.mpr c35
                subst c35; (rw [if_neg (show ¬ (false = true) by decide)] at H); (by_cases c40 : x5_1.length < 17592186044416)
                ·rw [if_pos c40] at H
                 (have LMc40 := Aside0.mk c40); clear c40; (obtain ⟨y122, hy122⟩ : ∃ y_ : List Int, y_ = (x5_1 ++ [2]) := ⟨_, rfl⟩); (replace H : (impl_states.l0 kj21 l0 l1 y122 t104 (t104.length : Int) (wrap64 (x17_1 + 1))) = some r := by first | (rw [hy122]; with_reducible exact H) | (have H2_ := (Option.bind_some _ _).symm.trans H; rw [hy122]; with_reducible exact H2_) | (have H2_ := (Option.bind_some _ _).symm.trans H; with_reducible exact H2_) | with_reducible exact H | (rw [hy122]; exact H) | exact H); (have Ny122 := Aside0.mk hy122); clear hy122; (have H' := Aside0.mk H); clear H; (have hcz41_0 := cz BK109.out 0); (have hcz41_1 := cz BK109.out 1); (have hcz41_2 := cz BK109.out 2); (have hcz41_3 := cz BK109.out 3); (have hcz41_4 := cz BK109.out 4); (have hcz41_5 := cz BK109.out 5); (have hcz41_6 := cz BK109.out 6); (have hfz41_0 := blk_frozen BK109.out 0); (have hfz41_1 := blk_frozen BK109.out 1); (have hfz41_2 := blk_frozen BK109.out 2); (have hfz41_3 := blk_frozen BK109.out 3); (have hfz41_4 := blk_frozen BK109.out 4); (have hfz41_5 := blk_frozen BK109.out 5); (have hfz41_6 := blk_frozen BK109.out 6); (go_wp2_with (first | (go_at_call 94; (with_reducible refine (impl_Field_isValue.calls kj21 ((rd_T69 l0 x17_1).f0) ((rd_T69 l0 x17_1).f1) ((rd_T69 l0 x17_1).f2) ((rd_T69 l0 x17_1).f3) _ _ ((rd_T69 l0 x17_1).f4) ((rd_T69 l0 x17_1).f5) ((rd_T69 l0 x17_1).f6) t110 false _ ?side1 ?side2 ?side3 A34.out).mono ?_); (case side1 => repeat (first | exact (Kd.C_below HR108_4.out HB.out) | (with_reducible first | refine cA ?_ _ | refine cN ?_ _ | refine cD ?_))); (case side2 => exact HC108_4.out); (case side3 => first | exact GE.below HG.out (by repeat (first | (with_reducible first | exact HB.out | apply bA | apply bN | apply bD | refine below_set ?_ GE109.out) | exact HB.out)) | (repeat (first | exact HG.out | (with_reducible first | apply GE.drewN | apply GE.drew | apply GE.alloc)))); rintro e w42 ⟨rfl, hb⟩; have n0_ := Aside0.mk (Kd.R_below (by (with_reducible repeat (first | apply rA | apply rN | apply rD)); exact HO_5.out) hb); have n1_ := Aside0.mk (Kd.R_below (by (with_reducible repeat (first | apply rA | apply rN | apply rD)); exact HO_15.out) hb); have n2_ := Aside0.mk (blk_below (by (with_reducible repeat (first | refine kN ?_ _ | refine kD ?_ | refine kA ?_ _)); exact BK109.out) hb); have n3_ := Aside0.mk (below_step (by repeat (first | (with_reducible first | exact HB.out | apply bA | apply bN | apply bD | refine below_set ?_ GE109.out) | exact HB.out)) hb); clear HO_5 HO_15 BK109 HB; have HO_5 := n0_; have HO_15 := n1_; have BK109 := n2_; have HB := n3_; clear n0_ n1_ n2_ n3_; (try clear hb); (try clear hb2); (try clear hk); (try clear hi)) | ((with_reducible refine gate_builtin (b := .append) (xs := #[.tmp 60, .tmp 62]) rfl ?_); at_builtin; refine Kd.R_append (Kd.int .i64) (w0 := w) w.heap.size rfl (.tmp 60) (.tmp 62) 38 3 (.int .i64 0) 8 rfl Tryd.underlying38 info3 rfl (by decide) (by omega) u5 x5_1 2 [.int .i64 2] (fun _ => True) (fun _ => False) rfl rfl ?aP (fun _ hk => hk.elim) ?aF ?aO ?aB ?aS ?aL ?_; (case aP => exact rfl); (case aB => exact (by repeat (first | (with_reducible first | exact HB.out | apply bA | apply bN | apply bD | refine below_set ?_ GE109.out) | exact HB.out))); (case aF => exact (fun _ _ => trivial)); (case aO => exact (by (with_reducible repeat (first | apply rA | apply rN | apply rD)); exact HO_5.out)); (case aS => exact (below_size (by repeat (first | (with_reducible first | exact HB.out | apply bA | apply bN | apply bD | refine below_set ?_ GE109.out) | exact HB.out)))); (case aL => have := LMc40.out; omega); intro v123 w43 ho hb hg hat; rw [← Ny122.out] at ho; have n0_ := Aside0.mk (Kd.R_over' (by (with_reducible repeat (first | apply rA | apply rN | apply rD)); exact HO_15.out) (Kd.R_typed (by (with_reducible repeat (first | apply rA | apply rN | apply rD)); exact HO_5.out)) (by decide) hg); have n1_ := Aside0.mk (blk_grown (by (with_reducible repeat (first | refine kN ?_ _ | refine kD ?_ | refine kA ?_ _)); exact BK109.out) hg (Kd.R_ne HO_5.out BK109.out (by decide))); have n2_ := Aside0.mk (hb); have n3_ := Aside0.mk (ho); clear HO_15 BK109 HB HO_5; have HO_15 := n0_; have BK109 := n1_; have HB := n2_; have HO124 := n3_; clear n0_ n1_ n2_ n3_ ho hb hg hat))); go_roundg kj21
                 case measure => have := HK1.out; have := HJ12.out; have := HJ21.out; omega
                 case rel => exact ⟨(y122), (wrap64 (x17_1 + 1)), (by first | rfl | (simp; done) | (simp [*]; done)), H', ⟨by have := HK1.out; have := HJ12.out; have := HJ21.out; omega⟩, ⟨by (with_reducible repeat (first | apply rA | apply rN | apply rD)); exact HO124.out⟩, ⟨by (with_reducible repeat (first | apply rA | apply rN | apply rD)); exact HO_15.out⟩, ⟨by repeat (first | (with_reducible first | exact HB.out | apply bA | apply bN | apply bD | refine below_set ?_ GE109.out) | exact HB.out)⟩⟩
                ·rw [if_neg c40] at H
                 exact absurd H (by simp)
              ·replace c33 := Bool.eq_false_iff.mpr c33
               subst c33; (rw [if_neg (show ¬ (false = true) by decide)] at H); (by_cases c44 : x5_1.length < 17592186044416)
               ·rw [if_pos c44] at H
                (have LMc44 := Aside0.mk c44); clear c44; (obtain ⟨y125, hy125⟩ : ∃ y_ : List Int, y_ = (x5_1 ++ [0]) := ⟨_, rfl⟩); (replace H : (impl_states.l0 kj21 l0 l1 y125 t104 (t104.length : Int) (wrap64 (x17_1 + 1))) = some r := by first | (rw [hy125]; with_reducible exact H) | (have H2_ := (Option.bind_some _ _).symm.trans H; rw [hy125]; with_reducible exact H2_) | (have H2_ := (Option.bind_some _ _).symm.trans H; with_reducible exact H2_) | with_reducible exact H | (rw [hy125]; exact H) | exact H); (have Ny125 := Aside0.mk hy125); clear hy125; (have H' := Aside0.mk H); clear H; (go_wp2_with (first | ((with_reducible refine gate_builtin (b := .append) (xs := #[.tmp 60, .tmp 62]) rfl ?_); at_builtin; refine Kd.R_append (Kd.int .i64) (w0 := w) w.heap.size rfl (.tmp 60) (.tmp 62) 38 3 (.int .i64 0) 8 rfl Tryd.underlying38 info3 rfl (by decide) (by omega) u5 x5_1 0 [.int .i64 0] (fun _ => True) (fun _ => False) rfl rfl ?aP (fun _ hk => hk.elim) ?aF ?aO ?aB ?aS ?aL ?_; (case aP => exact rfl); (case aB => exact (by repeat (first | (with_reducible first | exact HB.out | apply bA | apply bN | apply bD | refine below_set ?_ GE109.out) | exact HB.out))); (case aF => exact (fun _ _ => trivial)); (case aO => exact (by (with_reducible repeat (first | apply rA | apply rN | apply rD)); exact HO_5.out)); (case aS => exact (below_size (by repeat (first | (with_reducible first | exact HB.out | apply bA | apply bN | apply bD | refine below_set ?_ GE109.out) | exact HB.out)))); (case aL => have := LMc44.out; omega); intro v126 w45 ho hb hg hat; rw [← Ny125.out] at ho; have n0_ := Aside0.mk (Kd.R_over' (by (with_reducible repeat (first | apply rA | apply rN | apply rD)); exact HO_15.out) (Kd.R_typed (by (with_reducible repeat (first | apply rA | apply rN | apply rD)); exact HO_5.out)) (by decide) hg); have n1_ := Aside0.mk (blk_grown (by (with_reducible repeat (first | refine kN ?_ _ | refine kD ?_ | refine kA ?_ _)); exact BK109.out) hg (Kd.R_ne HO_5.out BK109.out (by decide))); have n2_ := Aside0.mk (hb); have n3_ := Aside0.mk (ho); clear HO_15 BK109 HB HO_5; have HO_15 := n0_; have BK109 := n1_; have HB := n2_; have HO127 := n3_; clear n0_ n1_ n2_ n3_ ho hb hg hat))); go_roundg kj21
                case measure => have := HK1.out; have := HJ12.out; have := HJ21.out; omega
                case rel => exact ⟨(y125), (wrap64 (x17_1 + 1)), (by first | rfl | (simp; done) | (simp [*]; done)), H', ⟨by have := HK1.out; have := HJ12.out; have := HJ21.out; omega⟩, ⟨by (with_reducible repeat (first | apply rA | apply rN | apply rD)); exact HO127.out⟩, ⟨by (with_reducible repeat (first | apply rA | apply rN | apply rD)); exact HO_15.out⟩, ⟨by repeat (first | (with_reducible first | exact HB.out | apply bA | apply bN | apply bD | refine below_set ?_ GE109.out) | exact HB.out)⟩⟩
               ·rw [if_neg c44] at H
                exact absurd H (by simp)
             ·replace c32 := Bool.eq_false_iff.mpr c32
              subst c32; (rw [if_neg (show ¬ (false = true) by decide)] at H); (by_cases c46 : x5_1.length < 17592186044416)
              ·rw [if_pos c46] at H
               (have LMc46 := Aside0.mk c46); clear c46; (obtain ⟨y128, hy128⟩ : ∃ y_ : List Int, y_ = (x5_1 ++ [0]) := ⟨_, rfl⟩); (replace H : (impl_states.l0 kj21 l0 l1 y128 t104 (t104.length : Int) (wrap64 (x17_1 + 1))) = some r := by first | (rw [hy128]; with_reducible exact H) | (have H2_ := (Option.bind_some _ _).symm.trans H; rw [hy128]; with_reducible exact H2_) | (have H2_ := (Option.bind_some _ _).symm.trans H; with_reducible exact H2_) | with_reducible exact H | (rw [hy128]; exact H) | exact H); (have Ny128 := Aside0.mk hy128); clear hy128; (have H' := Aside0.mk H); clear H; (go_wp2_with (first | ((with_reducible refine gate_builtin (b := .append) (xs := #[.tmp 60, .tmp 62]) rfl ?_); at_builtin; refine Kd.R_append (Kd.int .i64) (w0 := w) w.heap.size rfl (.tmp 60) (.tmp 62) 38 3 (.int .i64 0) 8 rfl Tryd.underlying38 info3 rfl (by decide) (by omega) u5 x5_1 0 [.int .i64 0] (fun _ => True) (fun _ => False) rfl rfl ?aP (fun _ hk => hk.elim) ?aF ?aO ?aB ?aS ?aL ?_; (case aP => exact rfl); (case aB => exact (by repeat (first | (with_reducible first | exact HB.out | apply bA | apply bN | apply bD | refine below_set ?_ GE109.out) | exact HB.out))); (case aF => exact (fun _ _ => trivial)); (case aO => exact (by (with_reducible repeat (first | apply rA | apply rN | apply rD)); exact HO_5.out)); (case aS => exact (below_size (by repeat (first | (with_reducible first | exact HB.out | apply bA | apply bN | apply bD | refine below_set ?_ GE109.out) | exact HB.out)))); (case aL => have := LMc46.out; omega); intro v129 w47 ho hb hg hat; rw [← Ny128.out] at ho; have n0_ := Aside0.mk (Kd.R_over' (by (with_reducible repeat (first | apply rA | apply rN | apply rD)); exact HO_15.out) (Kd.R_typed (by (with_reducible repeat (first | apply rA | apply rN | apply rD)); exact HO_5.out)) (by decide) hg); have n1_ := Aside0.mk (blk_grown (by (with_reducible repeat (first | refine kN ?_ _ | refine kD ?_ | refine kA ?_ _)); exact BK109.out) hg (Kd.R_ne HO_5.out BK109.out (by decide))); have n2_ := Aside0.mk (hb); have n3_ := Aside0.mk (ho); clear HO_15 BK109 HB HO_5; have HO_15 := n0_; have BK109 := n1_; have HB := n2_; have HO130 := n3_; clear n0_ n1_ n2_ n3_ ho hb hg hat))); go_roundg kj21
               case measure => have := HK1.out; have := HJ12.out; have := HJ21.out; omega
               case rel => exact ⟨(y128), (wrap64 (x17_1 + 1)), (by first | rfl | (simp; done) | (simp [*]; done)), H', ⟨by have := HK1.out; have := HJ12.out; have := HJ21.out; omega⟩, ⟨by (with_reducible repeat (first | apply rA | apply rN | apply rD)); exact HO130.out⟩, ⟨by (with_reducible repeat (first | apply rA | apply rN | apply rD)); exact HO_15.out⟩, ⟨by repeat (first | (with_reducible first | exact HB.out | apply bA | apply bN | apply bD | refine below_set ?_ GE109.out) | exact HB.out)⟩⟩
              ·rw [if_neg c46] at H
               exact absurd H (by simp)
      ·rw [if_neg c11] at H
       exact absurd H (by simp)
     ·rw [if_neg c10] at H
      exact absurd H (by simp)
    ·rw [if_neg c9] at H
     exact absurd H (by simp)
   ·rw [if_neg c8] at H
    (have c8b0 : decide (x17_1 < (t104.length : Int)) = false := decide_eq_false c8); clear c8; (obtain rfl := Option.some.inj H); (go_wp2); go_ret; (exact ⟨_, by first | rfl | (simp [errW_none, errW_some] <;> rfl) | (simp [*, errW_none, errW_some] <;> rfl), by (with_reducible repeat (first | apply rA | apply rN | apply rD)); exact HO_5.out, by repeat (first | (with_reducible first | exact HB.out | apply bA | apply bN | apply bD) | exact HB.out)⟩)

end Go.Proofs.YtdogpphfofimeaaDoor.X
set_option linter.unusedVariables false
namespace Go.Proofs.YtdogpphfofimeaaDoor.X
open Go.RowKit Go.Proofs.YtdogpphfofimeaaDoorW.PrintWords Go.Proofs.YtdogpphfofimeaaDoorW.PrintLast Go.Proofs.YtdogpphfofimeaaDoorW.PrintMore Go.Proofs.YtdogpphfofimeaaDoor.E
set_option maxHeartbeats 1000000 in
set_option maxRecDepth 100000 in
theorem idxFunc93 (A_ : Option Addr) (c_ : Nat) (l0 : List (Int)) (g : Nat) (lb : Array Value) (p : Int → Bool) (w : World)
    (hr0 : Kd.C (Kd.int .i64) w A_ l0.length l0) (eg : ∀ args w, (callFunc g args).run Tryd.prog w = .ok (.enter g args) w)
    (hp : ∀ (W : World) (x : Int), x ∈ l0 → Below w.heap.size w W → Calls Tryd.prog g (#[.int .i64 x] ++ lb) W fun e w' => e = .returned (.bool (p x)) ∧ Below W.heap.size W w') :
    Calls Tryd.prog 93 #[.slice A_ l0.length c_, .func (.func g) #[] lb] w fun e w' => e = .returned (.int .i64 (idxG p 0 l0)) ∧ Below w.heap.size w w' := by
  have HL := Aside0.mk hr0.2.1
  have HR0 := Aside0.mk hr0
  have HP := Aside0.mk hp
  clear hr0 hp
  go_enter Tryd.func93, Tryd.ntmps93
  go_wp2
  go_loopg [5, 8] l0.length (fun gg _ s8 wr => ∃ x8 : Int, s8 = .int .i64 x8 ∧ Aside0 (0 ≤ x8) ∧ Aside0 (x8 ≤ (l0.length : Int)) ∧ Aside0 ((l0.length : Int) - x8 ≤ (gg : Int)) ∧ Aside0 (Below w.heap.size w wr) ∧ Aside0 (∀ (m : Nat) y, (m : Int) < x8 → l0[m]? = some y → p y = false))
  case atStart => exact ⟨0, rfl, ⟨by omega⟩, ⟨by omega⟩, ⟨by omega⟩, ⟨Below.refl _ _⟩, ⟨fun m y hm => by omega⟩⟩
  case round =>
    obtain ⟨x8, rfl, H0, H1, HG, HB, HN⟩ := hrel
    by_cases c : x8 < (l0.length : Int)
    · have p1 := H0.out
      have q1 := c
      have cb : decide (x8 < (l0.length : Int)) = true := decide_eq_true c
      obtain ⟨ad, e, hx0⟩ := Kd.at_int (Kd.C_below HR0.out HB.out) x8 p1 q1
      cases e
      replace p1 := eq_true p1
      replace q1 := eq_true q1
      have hel : l0[x8.toNat]? = some (rd l0 x8) := by
        have := H0.out
        unfold rd
        rw [List.getD_eq_getElem?_getD, List.getElem?_eq_getElem (show x8.toNat < l0.length by omega), Option.getD_some]
      have hcall := HP.out wr (rd l0 x8) (List.mem_of_getElem? hel) HB.out
      have HE := Aside0.mk hel
      clear hel
      have hwr : wrap64 (x8 + 1) = x8 + 1 := wrap_id (by have := H0.out; omega) (by have := HL.out; omega)
      cases hq : p (rd l0 x8) with
      | true =>
        rw [hq] at hcall
        have HQ := Aside0.mk hq
        clear hq
        go_wp2_with (go_at_fn g; refine hcall.mono ?_; rintro e w' ⟨rfl, hb⟩)
        go_ret
        refine ⟨?_, ?_⟩
        · rw [idxG_here HE.out HQ.out (fun m y hm => HN.out m y (by have := H0.out; omega))]
          have := H0.out
          rw [Int.toNat_of_nonneg (by omega)]
          rfl
        · exact below_step HB.out hb
      | false =>
        rw [hq] at hcall
        have HQ := Aside0.mk hq
        clear hq
        go_wp2_with (go_at_fn g; refine hcall.mono ?_; rintro e w' ⟨rfl, hb⟩)
        go_roundg (l0.length - (x8.toNat + 1))
        case measure => have := HG.out; have := H0.out; omega
        case rel =>
          refine ⟨x8 + 1, by simp [*], ⟨by have := H0.out; omega⟩, ⟨by omega⟩, ⟨by have := H0.out; omega⟩, ⟨below_step HB.out hb⟩, ⟨fun m y hm hy => ?_⟩⟩
          by_cases e : (m : Int) = x8
          · have : x8.toNat = m := by omega
            rw [← this, HE.out] at hy
            cases hy
            exact HQ.out
          · exact HN.out m y (by omega) hy
    · have cb : decide (x8 < (l0.length : Int)) = false := decide_eq_false c
      have e : x8 = (l0.length : Int) := by have := H1.out; omega
      have HE := Aside0.mk e
      clear e
      go_wp2
      go_ret
      refine ⟨?_, HB.out⟩
      rw [idxG_none (fun m y hm => HN.out m y (by rw [HE.out]; omega))]
      rfl
end Go.Proofs.YtdogpphfofimeaaDoor.X
set_option linter.unusedVariables false
namespace Go.Proofs.YtdogpphfofimeaaDoor.X
open Go.RowKit Go.Proofs.YtdogpphfofimeaaDoorW.PrintWords Go.Proofs.YtdogpphfofimeaaDoorW.PrintLast Go.Proofs.YtdogpphfofimeaaDoorW.PrintMore Go.Proofs.YtdogpphfofimeaaDoor.E
set_option maxHeartbeats 1000000 in
set_option maxRecDepth 100000 in
theorem containsFunc55 (A_ : Option Addr) (c_ : Nat) (l0 : List (Int)) (g : Nat) (lb : Array Value) (p : Int → Bool) (w : World)
    (hr0 : Kd.C (Kd.int .i64) w A_ l0.length l0) (eg : ∀ args w, (callFunc g args).run Tryd.prog w = .ok (.enter g args) w)
    (hp : ∀ (W : World) (x : Int), x ∈ l0 → Below w.heap.size w W → Calls Tryd.prog g (#[.int .i64 x] ++ lb) W fun e w' => e = .returned (.bool (p x)) ∧ Below W.heap.size W w') :
    Calls Tryd.prog 55 #[.slice A_ l0.length c_, .func (.func g) #[] lb] w fun e w' => e = .returned (.bool (l0.any p)) ∧ Below w.heap.size w w' := by
  have C := Aside0.mk (idxFunc93 A_ c_ l0 g lb p w hr0 eg hp)
  have hn := Aside0.mk (idxG_nonneg p l0 0)
  clear hr0 hp
  go_enter Tryd.func55, Tryd.ntmps55
  go_wp2_with (go_at_call 93; refine C.out.mono ?_; rintro e w' ⟨rfl, hb⟩)
  go_ret
  refine ⟨?_, hb⟩
  rw [← hn.out]
  rfl
end Go.Proofs.YtdogpphfofimeaaDoor.X
set_option linter.unusedVariables false
set_option linter.unusedSimpArgs false
namespace Go.Proofs.YtdogpphfofimeaaDoor.X
open Go.RowKit Go.Proofs.YtdogpphfofimeaaDoorW.PrintWords Go.Proofs.YtdogpphfofimeaaDoorW.PrintLast Go.Proofs.YtdogpphfofimeaaDoorW.PrintMore
structure RngMk (w W w1 : World) (lo hi : Nat) : Prop where
  r : ∀ {α : Type} {d : Kd α} {e : Nat} {v : Value} {xs : List α}, d.R e w1 W.heap.size (fun _ => True) v xs → d.R e w1 w.heap.size (fun k_ => lo ≤ k_ ∧ k_ < hi) v xs
  s : ∀ {α : Type} {d : Kd α} {e : Nat} {v : Value} {xs : List α}, Kd.S d e w1 W.heap.size (fun _ => True) v xs → Kd.S d e w1 w.heap.size (fun k_ => lo ≤ k_ ∧ k_ < hi) v xs
theorem rcI {α : Type} {d : Kd α} {e : Nat} {W W' : World} {base n c : Nat} {ok : Nat → Prop} {A : Option Addr} {xs : List α} (h : Aside0 (d.R e W base ok (.slice A n c) xs)) [k : Lat W W'] : d.C W' A xs.length xs ∧ xs.length ≤ c := by
  obtain ⟨h1, h2, h3⟩ := Kd.R_reads' (Kd.R_below h.out k.out)
  subst h1
  exact ⟨h3, h2⟩
end Go.Proofs.YtdogpphfofimeaaDoor.X
namespace Go.Proofs.YtdogpphfofimeaaDoor.X
open Go.RowKit Go.Proofs.YtdogpphfofimeaaDoorW.PrintWords Go.Proofs.YtdogpphfofimeaaDoorW.PrintLast Go.Proofs.YtdogpphfofimeaaDoorW.PrintMore Go.Proofs.YtdogpphfofimeaaDoor.E
attribute [local go_sem] max2_int min2_int max_two min_two max_three min_three max_four min_four   -- for this text's walks alone
set_option linter.unusedVariables false
set_option linter.unusedSimpArgs false
attribute [-simp] ByteArray.size_append ByteArray.size_extract
attribute [-go_sem] ByteArray.size_append'

/-! ### impl_IsComplete: function 17 -/
/-- The literal of IsComplete: is the state not fine? -/
theorem isComplete1 (x : Int) (w : World) :
  Calls Tryd.prog 57 #[.int .i64 x] w fun e w' => e = .returned (.bool (x != 0)) ∧ Below w.heap.size w w' := by
 (go_enter Tryd.func57, Tryd.ntmps57); (go_wp2); go_ret; (exact ⟨rfl, Below.refl _ _⟩)
def impl_IsComplete.f (k : Nat) (l0 : List S69) (l1 : List S58) : Option (Bool × Bool) := (impl_IsValidAnswers.f k l0 l1).bind fun t => (if t = true then ((impl_states.f k l0 l1).bind fun q => (some (!(q.any (fun x => x != 0)), true))) else (some (false, false)))
set_option maxHeartbeats 1000000 in
set_option maxRecDepth 100000 in
theorem impl_IsComplete.calls (k : Nat) (A0 : Option Addr) (c0 : Nat) (l0 : List (S69)) (A1 : Option Addr) (c1 : Nat) (l1 : List (S58)) (r1 : Bool) (r2 : Bool) (w : World) (hr0 : Kd.C k69 w A0 l0.length l0) (hc0 : l0.length ≤ c0) (hr1 : Kd.C k58 w A1 l1.length l1) (hc1 : l1.length ≤ c1) (hG : GE w) (h : impl_IsComplete.f k l0 l1 = some (r1, r2)) :
  Calls Tryd.prog 17 #[.slice A0 l0.length c0, .slice A1 l1.length c1] w fun e w' => e = .returned (.tuple #[.bool r1, .bool r2]) ∧ Below w.heap.size w w' := by
 (have HR0 := Aside0.mk hr0); (have HC0 := Aside0.mk hc0); (have HR1 := Aside0.mk hr1); (have HC1 := Aside0.mk hc1); (have HG := Aside0.mk hG); clear hr0 hc0 hr1 hc1 hG; (have HB := Aside0.mk (Below.refl w.heap.size w)); (unfold impl_IsComplete.f at h); (have H := h); clear h; (replace H := obS H; obtain ⟨t101, A3, H⟩ := H); (by_cases c4 : t101 = true)
 ·subst c4
  (rw [if_pos rfl] at H); (replace H := obS H; obtain ⟨t102, A5, H⟩ := H); (simp only [Option.some.injEq, Prod.mk.injEq] at H); (obtain ⟨HQ, rfl⟩ := H); (have HH := Aside0.mk HQ); clear HQ; (go_enter Tryd.func17, Tryd.ntmps17); (go_wp2_with (first | ((with_reducible refine gate_callee (f := 34) rfl ?_); refine gL (some 8) Tryd.func34 #[.slice A0 l0.length c0, .slice A1 l1.length c1] ?_; (with_reducible refine (impl_IsValidAnswers.calls k _ _ l0 _ _ l1 true _ ?side1 ?side2 ?side3 ?side4 A3.out).mono ?_); (case side1 => exact cI HR0.out); (case side2 => exact HC0.out); (case side3 => exact cI HR1.out); (case side4 => exact HC1.out); rintro e w6 ⟨rfl, hb⟩; refine ⟨_, rfl, ?_⟩; have n0_ := Aside0.mk (sI hb HB); clear HB hb; have HB := n0_; clear n0_) | ((with_reducible refine gate_callee (f := 56) rfl ?_); refine gL (some 12) Tryd.func56 #[.slice A0 l0.length c0, .slice A1 l1.length c1] ?_; (with_reducible refine (impl_states.calls k _ _ l0 _ _ l1 t102 _ ?side1 ?side2 ?side3 ?side4 ?side5 A5.out).mono ?_); (case side1 => exact Kd.C_below HR0.out (eI HB)); (case side2 => exact HC0.out); (case side3 => exact Kd.C_below HR1.out (eI HB)); (case side4 => exact HC1.out); (case side5 => exact GE.below HG.out (eI HB)); rintro e w7 ⟨v103, rfl, ho0, hb⟩; refine ⟨_, rfl, ?_⟩; obtain ⟨A7, c7, rfl⟩ := Kd.R_slice ho0; have n0_ := Aside0.mk ho0; have n1_ := Aside0.mk (sI hb HB); clear HB hb ho0; have HO := n0_; have HB := n1_; clear n0_ n1_) | (go_at_call 55; refine (containsFunc55 A7 c7 t102 57 #[] (fun x => x != 0) _ (rcI HO).1 (enters_of Tryd.func57 (by kernel_rfl) rfl) (fun W x _ _ => isComplete1 x W)).mono ?_; rintro e w8 ⟨rfl, hb⟩; have n1_ := Aside0.mk (sI hb HB); clear HB hb; have HB := n1_; clear n1_))); (go_ret2); (refine ⟨?_, eI HB⟩); (rw [← HH.out]); rfl
 ·replace c4 := Bool.eq_false_iff.mpr c4
  subst c4; (rw [if_neg (show ¬ (false = true) by decide)] at H); (simp only [Option.some.injEq, Prod.mk.injEq] at H); (obtain ⟨rfl, rfl⟩ := H); (go_enter Tryd.func17, Tryd.ntmps17); (go_wp2_with ((with_reducible refine gate_callee (f := 34) rfl ?_); refine gL (some 8) Tryd.func34 #[.slice A0 l0.length c0, .slice A1 l1.length c1] ?_; (with_reducible refine (impl_IsValidAnswers.calls k _ _ l0 _ _ l1 false _ ?side1 ?side2 ?side3 ?side4 A3.out).mono ?_); (case side1 => exact cI HR0.out); (case side2 => exact HC0.out); (case side3 => exact cI HR1.out); (case side4 => exact HC1.out); rintro e w8 ⟨rfl, hb⟩; refine ⟨_, rfl, ?_⟩; have n0_ := Aside0.mk (sI hb HB); clear HB; have HB := n0_; clear n0_)); (go_ret2); (exact ⟨rfl, eI HB⟩)

end Go.Proofs.YtdogpphfofimeaaDoor.X
namespace Go.Proofs.YtdogpphfofimeaaDoor.X
open Go.RowKit Go.Proofs.YtdogpphfofimeaaDoorW.PrintWords Go.Proofs.YtdogpphfofimeaaDoorW.PrintLast Go.Proofs.YtdogpphfofimeaaDoorW.PrintMore
attribute [local go_sem] max2_int min2_int max_two min_two max_three min_three max_four min_four   -- for this text's walks alone
set_option linter.unusedVariables false
set_option linter.unusedSimpArgs false
attribute [-simp] ByteArray.size_append ByteArray.size_extract
attribute [-go_sem] ByteArray.size_append'

/-! ### laws_eqAnswer: function 58 -/
def laws_eqAnswer.f (a0_0 : ByteArray) (a0_1 : ByteArray) (a1_0 : ByteArray) (a1_1 : ByteArray) : Option (Bool) := if a0_0.toList = a1_0.toList then (if a0_1.toList = a1_1.toList then (some true) else (some false)) else (some false)
set_option maxHeartbeats 8000000 in
set_option maxRecDepth 100000 in
theorem laws_eqAnswer.calls (a0_0 : ByteArray) (a0_1 : ByteArray) (a1_0 : ByteArray) (a1_1 : ByteArray) (r : Bool) (w : World) (h : laws_eqAnswer.f a0_0 a0_1 a1_0 a1_1 = some r) (ht_ : Aside0 (r = true)) :
  Calls Tryd.prog 58 #[.agg #[.string a0_0, .string a0_1], .agg #[.string a1_0, .string a1_1]] w fun e w' => e = .returned (.bool r) ∧ Below w.heap.size w w' := by
 (have hu58 := Tryd.underlying58); (have HB := Aside0.mk (Below.refl w.heap.size w)); (unfold laws_eqAnswer.f at h); (have H := h); clear h; (by_cases c3 : a0_0.toList = a1_0.toList)
 ·rw [if_pos c3] at H
  (have c3b0 : (a0_0.toList == a1_0.toList) = true := beq_iff_eq.mpr c3); (have c3b1 : (a0_0.toList != a1_0.toList) = false := bne_eq_false_iff_eq.mpr c3); clear c3; (by_cases c4 : a0_1.toList = a1_1.toList); (· (rw [if_pos c4] at H); (have c4b0 : (a0_1.toList == a1_1.toList) = true := beq_iff_eq.mpr c4); (have c4b1 : (a0_1.toList != a1_1.toList) = false := bne_eq_false_iff_eq.mpr c4); clear c4; (obtain rfl := Option.some.inj H); (go_enter Tryd.func58, Tryd.ntmps58); (go_wp2_with (first | ((with_reducible refine gate_dst (N := 2) rfl ?_); refine box_event ?hg (N := 2) ?hd (cs := #[.string a0_0, .string a0_1]) (t := 58) ?hr ?_; (case hd => rfl); (case hg => rfl); (case hr => first | (go_simp; done) | (go_simp; rfl)); intro gb101 hg w5 hbox hb; have hB_ := zI hb HB; have n0_ := Aside0.mk (below_step hB_ hb); have n1_ := Aside0.mk (hbox); have n2_ := Aside0.mk (bx0 hg hB_); have n3_ := n2_; clear HB; have HB := n0_; have BK101 := n1_; have GW101 := n2_; have GE101 := n3_; clear n0_ n1_ n2_ n3_ hB_ hb hbox hg) | ((with_reducible refine gate_dst (N := 3) rfl ?_); refine box_event ?hg (N := 3) ?hd (cs := #[.string a1_0, .string a1_1]) (t := 58) ?hr ?_; (case hd => rfl); (case hg => rfl); (case hr => first | (go_simp; done) | (go_simp; rfl)); intro gb102 hg w6 hbox hb; have n0_ := Aside0.mk (kbI hb BK101); have hB_ := zI hb HB; have n1_ := Aside0.mk (below_step hB_ hb); have n2_ := Aside0.mk (hbox); have n3_ := Aside0.mk (bx0 hg hB_); have n4_ := n3_; have n5_ := Aside0.mk ((by rw [hg]; exact Nat.ne_of_lt (blk_lt (kI BK101)) : gb101 ≠ gb102)); have n6_ := Aside0.mk (Ne.symm n5_.out); clear BK101 HB; have BK101 := n0_; have HB := n1_; have BK102 := n2_; have GW102 := n3_; have GE102 := n4_; have NB101_102 := n5_; have NB102_101 := n6_; clear n0_ n1_ n2_ n3_ n4_ n5_ n6_ hB_ hb hbox hg; have hnb7 := NB101_102.out; have hnc7 := NB102_101.out; have hcz8_0 := cz BK101.out 0; have hcz8_1 := cz BK101.out 1; have hfz8_0 := blk_frozen BK101.out 0; have hfz8_1 := blk_frozen BK101.out 1; have hcz9_0 := cz BK102.out 0; have hcz9_1 := cz BK102.out 1; have hfz9_0 := blk_frozen BK102.out 0; have hfz9_1 := blk_frozen BK102.out 1))); go_ret; (exact ⟨rfl, eI HB⟩)); (· (rw [if_neg c4] at H); (have c4b0 : (a0_1.toList == a1_1.toList) = false := beq_eq_false_iff_ne.mpr c4); (have c4b1 : (a0_1.toList != a1_1.toList) = true := bne_iff_ne.mpr c4); (obtain rfl := Option.some.inj H); (exact absurd ht_.out (by decide)))
 ·rw [if_neg c3] at H
  (have c3b0 : (a0_0.toList == a1_0.toList) = false := beq_eq_false_iff_ne.mpr c3); (have c3b1 : (a0_0.toList != a1_0.toList) = true := bne_iff_ne.mpr c3); (obtain rfl := Option.some.inj H); (exact absurd ht_.out (by decide))
/-! ### laws_eqAnswerS: function 18 -/
def laws_eqAnswerS.l0 : Nat → List (S58) → List (S58) → Int → Option (Bool)
 | 0, _, _, _ => none
 | k + 1, x0, x1, x5 => if x5 < (x0.length : Int) then (if 0 ≤ x5 then (if x5 < (x1.length : Int) then ((laws_eqAnswer.f ((rd_T58 x0 x5).f0) ((rd_T58 x0 x5).f1) ((rd_T58 x1 x5).f0) ((rd_T58 x1 x5).f1)).bind fun t103 => (if t103 = true then (laws_eqAnswerS.l0 k x0 x1 (wrap64 (x5 + 1))) else (some false))) else (none)) else (none)) else (some true)
def laws_eqAnswerS.f (k : Nat) (l0 : List (S58)) (l1 : List (S58)) : Option (Bool) := if (l0.length : Int) = (l1.length : Int) then (laws_eqAnswerS.l0 k l0 l1 0) else (some false)
def laws_eqAnswerS.T6 : Bool × List (List Nat × List Nat) := (true, [([], []), ([], []), ([0, 1], [0, 1]), ([2], [2]), ([], []), ([], []), ([4, 5], [4, 5]), ([6], [6]), ([3, 7], [3, 7]), ([8], [8])])
def laws_eqAnswerS.B6 : List Nat := [0, 0, 3, 7, 0, 0, 48, 112, 255, 511]
theorem laws_eqAnswerS.tab6 : rtab .any (opsOf Tryd.f18 6) = laws_eqAnswerS.T6 := by kernel_rfl
theorem laws_eqAnswerS.bits6 : waitsOk laws_eqAnswerS.T6.2 laws_eqAnswerS.B6 = true := by kernel_rfl
set_option maxHeartbeats 8000000 in
set_option maxRecDepth 100000 in
theorem laws_eqAnswerS.calls (k : Nat) (A0 : Option Addr) (c0 : Nat) (l0 : List (S58)) (A1 : Option Addr) (c1 : Nat) (l1 : List (S58)) (r : Bool) (w : World) (hr0 : Kd.C k58 w A0 l0.length l0) (hc0 : l0.length ≤ c0) (hr1 : Kd.C k58 w A1 l1.length l1) (hc1 : l1.length ≤ c1) (h : laws_eqAnswerS.f k l0 l1 = some r) (ht_ : Aside0 (r = true)) :
  Calls Tryd.prog 18 #[.slice A0 l0.length c0, .slice A1 l1.length c1] w fun e w' => e = .returned (.bool r) ∧ Below w.heap.size w w' := by
 (have hu58 := Tryd.underlying58); (have HR0 := Aside0.mk hr0); (have HC0 := Aside0.mk hc0); clear hr0 hc0; (have HR1 := Aside0.mk hr1); (have HC1 := Aside0.mk hc1); clear hr1 hc1; (have HB := Aside0.mk (Below.refl w.heap.size w)); (unfold laws_eqAnswerS.f at h); (have H := h); clear h; (by_cases c3 : (l0.length : Int) = (l1.length : Int))
 ·rw [if_pos c3] at H
  (have c3b0 : ((l0.length : Int) == (l1.length : Int)) = true := beq_iff_eq.mpr c3); (have c3b1 : ((l0.length : Int) != (l1.length : Int)) = false := bne_eq_false_iff_eq.mpr c3); (have c3b2 : (l0.length == l1.length) = true := by first | simpa using c3 | (simp at c3 ⊢; omega)); clear c3; (have H' := Aside0.mk H); clear H; (go_enter Tryd.func18, Tryd.ntmps18); (go_wp2); (go_loopg [5] k (fun kq v5 w' => ∃ (x5_1 : Int), v5 = .int .i64 x5_1 ∧ Aside0 (laws_eqAnswerS.l0 kq l0 l1 x5_1 = some r) ∧ Aside0 (kq ≤ k) ∧ Aside0 (Below w.heap.size w w')))
  case atStart => exact ⟨(0), (by first | rfl | (simp; done) | (simp [*]; done)), H', ⟨Nat.le_refl _⟩, ⟨eI HB⟩⟩
  case round =>
   (clear H'); (try clear c1); (try clear p2); (try clear c3); (try clear c3b0); (try clear c3b1); (try clear c3b2); (obtain ⟨x5_1, rfl, HA, HK1, HB⟩ := hrel)
   cases gk with
   | zero => exact absurd HA.out (by simp [laws_eqAnswerS.l0])
   | succ k1 =>
    (have H := HA.out); clear HA; (simp only [laws_eqAnswerS.l0] at H); (by_cases c4 : x5_1 < (l0.length : Int))
    ·rw [if_pos c4] at H
     (have c4b0 := decide_eq_true c4); clear c4; (by_cases c5 : 0 ≤ x5_1)
     ·rw [if_pos c5] at H
      (have c5b0 := decide_eq_true c5); clear c5; (by_cases c6 : x5_1 < (l1.length : Int))
      ·rw [if_pos c6] at H
       (have c6b0 := decide_eq_true c6); clear c6; (replace H := obS H); (obtain ⟨t103, A7, H⟩ := H); (by_cases c8 : t103 = true)
       ·subst c8
        (rw [if_pos rfl] at H); (have H' := Aside0.mk H); clear H; (try go_wp2); (have n0_ := Aside0.mk (below_drew1 HB.out)); clear HB; (have HB := n0_); clear n0_; (have p101 : 0 ≤ (x5_1 : Int) := odt); (have q101 : x5_1 < (l0.length : Int) := odt); (obtain ⟨ad101, e101, hx101_0, hx101_1⟩ := at_T58 HR0.out x5_1 p101 q101); (have hw101_1 := hx101_1); (have hw101_0 := hx101_0); (cases e101); (replace hx101_0 := hcI HB hx101_0); (replace hx101_1 := hcI HB hx101_1); (replace p101 := eq_true p101); (replace q101 := eq_true q101); (have p102 : 0 ≤ (x5_1 : Int) := odt); (have q102 : x5_1 < (l1.length : Int) := odt); (obtain ⟨ad102, e102, hx102_0, hx102_1⟩ := at_T58 HR1.out x5_1 p102 q102); (have hw102_1 := hx102_1); (have hw102_0 := hx102_0); (cases e102); (replace hx102_0 := hcI HB hx102_0); (replace hx102_1 := hcI HB hx102_1); (replace p102 := eq_true p102); (replace q102 := eq_true q102); (refine start_ (n := 10) (S := fun w' => w'.cell? (ad101.add ((x5_1).toNat * 2)) = some (.string ((rd_T58 l0 x5_1).f0)) ∧ w'.cell? ⟨(ad101.add ((x5_1).toNat * 2)).block, (ad101.add ((x5_1).toNat * 2)).off + 1, none⟩ = some (.string ((rd_T58 l0 x5_1).f1)) ∧ w'.cell? (ad102.add ((x5_1).toNat * 2)) = some (.string ((rd_T58 l1 x5_1).f0)) ∧ w'.cell? ⟨(ad102.add ((x5_1).toNat * 2)).block, (ad102.add ((x5_1).toNat * 2)).off + 1, none⟩ = some (.string ((rd_T58 l1 x5_1).f1))) (ds := []) (cn 10 0) (by kernel_rfl) rfl (by kernel_rfl) ⟨(hcI HB hw101_0), (hcI HB hw101_1), (hcI HB hw102_0), (hcI HB hw102_1)⟩ (fun hHeld => ?_); refine with_tabW laws_eqAnswerS.tab6 laws_eqAnswerS.bits6 (fun HT_ HW_ => ?_)); (generalize wr.drew = w9 at HB hx101_0 hx101_1 hx102_0 hx102_1 hHeld ⊢); (refine pB 0 (cn 10 1) (some 17) HT_ (h := ?_)); (refine pB 1 (cn 10 2) (some 18) HT_ (h := ?_)); (refine pB 2 (cn 10 3) (some 19) HT_ (h := ?_)); (refine pB 4 (cb 10 23) (some 21) HT_ (h := ?_)); (refine pB 5 (cb 10 55) (some 22) HT_ (h := ?_)); (refine pB 6 (cb 10 119) (some 23) HT_ (h := ?_)); (refine tB 3 (cn 10 7) (some 20) HT_ HW_ hHeld (h := ?_)); (refine tB 7 (cn 10 8) (some 24) HT_ HW_ hHeld (h := ?_)); (refine oN 8 (some 25) (cn 10 9) HT_ (fun K hK => ?_)); (refine gG Tryd.func58 #[.agg #[.string ((rd_T58 l0 x5_1).f0), .string ((rd_T58 l0 x5_1).f1)], .agg #[.string ((rd_T58 l1 x5_1).f0), .string ((rd_T58 l1 x5_1).f1)]] ?_); (with_reducible refine (laws_eqAnswer.calls ((rd_T58 l0 x5_1).f0) ((rd_T58 l0 x5_1).f1) ((rd_T58 l1 x5_1).f0) ((rd_T58 l1 x5_1).f1) true _ A7.out ⟨rfl⟩).mono ?_); (rintro e w10 ⟨rfl, hb⟩); (refine ⟨_, rfl, ?_⟩); (have n0_ := Aside0.mk (sI hb HB)); clear HB; (have HB := n0_); clear n0_; ((try clear hb)); ((try clear hb2)); ((try clear hk)); ((try clear hi))
        (refine hK.out _ _ ⟨(hcI HB hw101_0), (hcI HB hw101_1), (hcI HB hw102_0), (hcI HB hw102_1)⟩ (fun hHeld => ?_)); clear hK K; (refine nP (some 25) (h := ?_)); (refine pB 9 (cn 10 10) (some 26) HT_ (h := ?_)); (refine done_ (done_of HT_.out (by kernel_rfl)) ?_); (try go_wp2); go_roundg k1
        case measure => have := HK1.out; omega
        case rel => exact ⟨(wrap64 (x5_1 + 1)), (by first | rfl | (simp; done) | (simp [*]; done)), H', ⟨by have := HK1.out; omega⟩, ⟨eI HB⟩⟩
       ·replace c8 := Bool.eq_false_iff.mpr c8
        subst c8; (rw [if_neg (show ¬ (false = true) by decide)] at H); (obtain rfl := Option.some.inj H); (exact absurd ht_.out (by decide))
      ·rw [if_neg c6] at H
       exact absurd H (by simp)
     ·rw [if_neg c5] at H
      exact absurd H (by simp)
    ·rw [if_neg c4] at H
     (have c4b0 := decide_eq_false c4); clear c4; (obtain rfl := Option.some.inj H); (go_wp2); go_ret; (exact ⟨rfl, eI HB⟩)
 ·rw [if_neg c3] at H
  (have c3b0 : ((l0.length : Int) == (l1.length : Int)) = false := beq_eq_false_iff_ne.mpr c3); (have c3b1 : ((l0.length : Int) != (l1.length : Int)) = true := bne_iff_ne.mpr c3); (have c3b2 : (l0.length == l1.length) = false := by first | simpa using c3 | (simp at c3 ⊢; omega)); (obtain rfl := Option.some.inj H); (exact absurd ht_.out (by decide))
/-! ### laws_szStringS: function 80 -/
def laws_szStringS.l0 : Nat → List ByteArray → Int → Int → Option (Int)
 | 0, _, _, _ => none
 | k + 1, x0, x1, x5 => if x5 < (x0.length : Int) then (if 0 ≤ x5 then (if (wrap64 (x1 - ((rdOf ByteArray.empty x0 x5).size : Int))) < 0 then (some (-1)) else (laws_szStringS.l0 k x0 (wrap64 (x1 - ((rdOf ByteArray.empty x0 x5).size : Int))) (wrap64 (x5 + 1)))) else (none)) else (some x1)
def laws_szStringS.f (k : Nat) (l0 : List ByteArray) (a1 : Int) : Option (Int) := if (wrap64 (a1 - (l0.length : Int))) < 0 then (some (-1)) else (laws_szStringS.l0 k l0 (wrap64 (a1 - (l0.length : Int))) 0)
set_option maxHeartbeats 8000000 in
set_option maxRecDepth 100000 in
theorem laws_szStringS.calls (k : Nat) (A0 : Option Addr) (c0 : Nat) (l0 : List ByteArray) (a1 : Int) (r : Int) (w : World) (hr0 : Kd.C Kd.string w A0 l0.length l0) (hc0 : l0.length ≤ c0) (h : laws_szStringS.f k l0 a1 = some r) :
  Calls Tryd.prog 80 #[.slice A0 l0.length c0, .int .i64 a1] w fun e w' => e = .returned (.int .i64 r) ∧ Drawn0 w w' := by
 (have HR0 := Aside0.mk hr0); (have HC0 := Aside0.mk hc0); clear hr0 hc0; (unfold laws_szStringS.f at h); (have H := h); clear h; (by_cases c3 : (wrap64 (a1 - (l0.length : Int))) < 0); (· (rw [if_pos c3] at H); (have c3b0 := decide_eq_true c3); clear c3; (obtain rfl := Option.some.inj H); (go_enter Tryd.func80, Tryd.ntmps80); (go_wp2); go_ret; (exact ⟨by first | rfl | (simp; done) | (simp [*]; done), by repeat (first | exact Drawn0.refl _ | apply Drawn0.step)⟩))
 ·rw [if_neg c3] at H
  (have c3b0 := decide_eq_false c3); clear c3; (have H' := Aside0.mk H); clear H; (go_enter Tryd.func80, Tryd.ntmps80); (go_wp2); (go_loopg [1, 5] k (fun kq v1 v5 w' => ∃ (x1_1 : Int) (x5_1 : Int), v1 = .int .i64 x1_1 ∧ v5 = .int .i64 x5_1 ∧ Aside0 (laws_szStringS.l0 kq l0 x1_1 x5_1 = some r) ∧ Aside0 (kq ≤ k) ∧ Drawn0 w w'))
  case atStart => exact ⟨(wrap64 (a1 - (l0.length : Int))), (0), (by first | rfl | (simp; done) | (simp [*]; done)), (by first | rfl | (simp; done) | (simp [*]; done)), H', ⟨Nat.le_refl _⟩, by repeat (first | exact Drawn0.refl _ | apply Drawn0.step)⟩
  case round =>
   (clear H'); (try clear p2); (try clear c3); (try clear c3b0); (obtain ⟨x1_1, x5_1, rfl, rfl, HA, HK1, ⟨m1, rfl⟩⟩ := hrel)
   cases gk with
   | zero => exact absurd HA.out (by simp [laws_szStringS.l0])
   | succ k1 =>
    (have H := HA.out); clear HA; (simp only [laws_szStringS.l0] at H); (by_cases c4 : x5_1 < (l0.length : Int))
    ·rw [if_pos c4] at H
     (have c4b0 := decide_eq_true c4); clear c4; (by_cases c5 : 0 ≤ x5_1)
     ·rw [if_pos c5] at H
      (have c5b0 := decide_eq_true c5); clear c5; (by_cases c6 : (wrap64 (x1_1 - ((rdOf ByteArray.empty l0 x5_1).size : Int))) < 0)
      ·rw [if_pos c6] at H
       (have c6b0 := decide_eq_true c6); clear c6; (obtain rfl := Option.some.inj H); (have p101 : 0 ≤ (x5_1 : Int) := odt); (have q101 : x5_1 < (l0.length : Int) := odt); (obtain ⟨ad101, e101, hx101_0⟩ := Kd.at_string HR0.out x5_1 p101 q101); (cases e101); (replace p101 := eq_true p101); (replace q101 := eq_true q101); (go_wp2); go_ret; (exact ⟨by first | rfl | (simp; done) | (simp [*]; done), by repeat (first | exact Drawn0.refl _ | apply Drawn0.step)⟩)
      ·rw [if_neg c6] at H
       (have c6b0 := decide_eq_false c6); clear c6; (have H' := Aside0.mk H); clear H; (have p101 : 0 ≤ (x5_1 : Int) := odt); (have q101 : x5_1 < (l0.length : Int) := odt); (obtain ⟨ad101, e101, hx101_0⟩ := Kd.at_string HR0.out x5_1 p101 q101); (cases e101); (replace p101 := eq_true p101); (replace q101 := eq_true q101); (go_wp2); go_roundg k1
       case measure => have := HK1.out; omega
       case rel => exact ⟨(wrap64 (x1_1 - ((rdOf ByteArray.empty l0 x5_1).size : Int))), (wrap64 (x5_1 + 1)), (by first | rfl | (simp; done) | (simp [*]; done)), (by first | rfl | (simp; done) | (simp [*]; done)), H', ⟨by have := HK1.out; omega⟩, by repeat (first | exact Drawn0.refl _ | apply Drawn0.step)⟩
     ·rw [if_neg c5] at H
      exact absurd H (by simp)
    ·rw [if_neg c4] at H
     (have c4b0 := decide_eq_false c4); clear c4; (obtain rfl := Option.some.inj H); (go_wp2); go_ret; (exact ⟨by first | rfl | (simp; done) | (simp [*]; done), by repeat (first | exact Drawn0.refl _ | apply Drawn0.step)⟩)
/-! ### laws_szField: function 43 -/
def laws_szField.f (k : Nat) (a0_0 : ByteArray) (a0_1 : Int) (a0_2 : Int) (a0_3 : Int) (l0_4 : List ByteArray) (a0_5 : Bool) (a0_6 : ByteArray) (a1 : Int) : Option (Int) := if (wrap64 (a1 - (a0_0.size : Int))) < 0 then (some (-1)) else ((laws_szStringS.f k l0_4 (wrap64 (a1 - (a0_0.size : Int)))).bind fun t102 => (if t102 < 0 then (some (-1)) else (if (wrap64 (t102 - (a0_6.size : Int))) < 0 then (some (-1)) else (some (wrap64 (t102 - (a0_6.size : Int)))))))
set_option maxHeartbeats 8000000 in
set_option maxRecDepth 100000 in
theorem laws_szField.calls (k : Nat) (a0_0 : ByteArray) (a0_1 : Int) (a0_2 : Int) (a0_3 : Int) (A0_4 : Option Addr) (c0_4 : Nat) (l0_4 : List ByteArray) (a0_5 : Bool) (a0_6 : ByteArray) (a1 : Int) (r : Int) (w : World) (hr0_4 : Kd.C Kd.string w A0_4 l0_4.length l0_4) (hc0_4 : l0_4.length ≤ c0_4) (h : laws_szField.f k a0_0 a0_1 a0_2 a0_3 l0_4 a0_5 a0_6 a1 = some r) :
  Calls Tryd.prog 43 #[.agg #[.string a0_0, .int .i64 a0_1, .int .i64 a0_2, .int .i64 a0_3, .slice A0_4 l0_4.length c0_4, .bool a0_5, .string a0_6], .int .i64 a1] w fun e w' => e = .returned (.int .i64 r) ∧ Below w.heap.size w w' := by
 (have hu68 := Tryd.underlying68); (have HR0_4 := Aside0.mk hr0_4); (have HC0_4 := Aside0.mk hc0_4); clear hr0_4 hc0_4; (have HB := Aside0.mk (Below.refl w.heap.size w)); (unfold laws_szField.f at h); (have H := h); clear h; (by_cases c3 : (wrap64 (a1 - (a0_0.size : Int))) < 0); (· (rw [if_pos c3] at H); (have c3b0 := decide_eq_true c3); clear c3; (obtain rfl := Option.some.inj H); (go_enter Tryd.func43, Tryd.ntmps43); (go_wp2_with (first | ((with_reducible refine gate_dst (N := 2) rfl ?_); refine box_event ?hg (N := 2) ?hd (cs := #[.string a0_0, .int .i64 a0_1, .int .i64 a0_2, .int .i64 a0_3, .slice A0_4 l0_4.length c0_4, .bool a0_5, .string a0_6]) (t := 68) ?hr ?_; (case hd => rfl); (case hg => rfl); (case hr => first | (go_simp; done) | (go_simp; rfl)); intro gb101 hg w4 hbox hb; have hB_ := zI hb HB; have n0_ := Aside0.mk (below_step hB_ hb); have n1_ := Aside0.mk (hbox); have n2_ := Aside0.mk (bx0 hg hB_); have n3_ := n2_; clear HB; have HB := n0_; have BK101 := n1_; have GW101 := n2_; have GE101 := n3_; clear n0_ n1_ n2_ n3_ hB_ hb hbox hg; have hcz5_0 := cz BK101.out 0; have hcz5_1 := cz BK101.out 1; have hcz5_2 := cz BK101.out 2; have hcz5_3 := cz BK101.out 3; have hcz5_4 := cz BK101.out 4; have hcz5_5 := cz BK101.out 5; have hcz5_6 := cz BK101.out 6; have hfz5_0 := blk_frozen BK101.out 0; have hfz5_1 := blk_frozen BK101.out 1; have hfz5_2 := blk_frozen BK101.out 2; have hfz5_3 := blk_frozen BK101.out 3; have hfz5_4 := blk_frozen BK101.out 4; have hfz5_5 := blk_frozen BK101.out 5; have hfz5_6 := blk_frozen BK101.out 6))); go_ret; (exact ⟨rfl, eI HB⟩))
 ·rw [if_neg c3] at H
  (have c3b0 := decide_eq_false c3); clear c3; (replace H := obS H); (obtain ⟨t102, A6, H⟩ := H); (by_cases c7 : t102 < 0); (· (rw [if_pos c7] at H); (have c7b0 := decide_eq_true c7); clear c7; (obtain rfl := Option.some.inj H); (go_enter Tryd.func43, Tryd.ntmps43); (go_wp2_with (first | ((with_reducible refine gate_dst (N := 2) rfl ?_); refine box_event ?hg (N := 2) ?hd (cs := #[.string a0_0, .int .i64 a0_1, .int .i64 a0_2, .int .i64 a0_3, .slice A0_4 l0_4.length c0_4, .bool a0_5, .string a0_6]) (t := 68) ?hr ?_; (case hd => rfl); (case hg => rfl); (case hr => first | (go_simp; done) | (go_simp; rfl)); intro gb101 hg w8 hbox hb; have hB_ := zI hb HB; have n0_ := Aside0.mk (below_step hB_ hb); have n1_ := Aside0.mk (hbox); have n2_ := Aside0.mk (bx0 hg hB_); have n3_ := n2_; clear HB; have HB := n0_; have BK101 := n1_; have GW101 := n2_; have GE101 := n3_; clear n0_ n1_ n2_ n3_ hB_ hb hbox hg; have hcz9_0 := cz BK101.out 0; have hcz9_1 := cz BK101.out 1; have hcz9_2 := cz BK101.out 2; have hcz9_3 := cz BK101.out 3; have hcz9_4 := cz BK101.out 4; have hcz9_5 := cz BK101.out 5; have hcz9_6 := cz BK101.out 6; have hfz9_0 := blk_frozen BK101.out 0; have hfz9_1 := blk_frozen BK101.out 1; have hfz9_2 := blk_frozen BK101.out 2; have hfz9_3 := blk_frozen BK101.out 3; have hfz9_4 := blk_frozen BK101.out 4; have hfz9_5 := blk_frozen BK101.out 5; have hfz9_6 := blk_frozen BK101.out 6) | ((with_reducible refine gate_callee (f := 80) rfl ?_); refine gL (some 15) Tryd.func80 #[.slice A0_4 l0_4.length c0_4, .int .i64 (wrap64 (a1 - (a0_0.size : Int)))] ?_; (with_reducible refine (laws_szStringS.calls k _ _ l0_4 (wrap64 (a1 - (a0_0.size : Int))) t102 _ ?side1 ?side2 A6.out).mono ?_); (case side1 => exact Kd.C_below HR0_4.out (eI HB)); (case side2 => exact HC0_4.out); rintro e w' ⟨rfl, ⟨nd, rfl⟩⟩; refine ⟨_, rfl, ?_⟩))); go_ret; (exact ⟨rfl, eI HB⟩))
  ·rw [if_neg c7] at H
   (have c7b0 := decide_eq_false c7); clear c7; (by_cases c10 : (wrap64 (t102 - (a0_6.size : Int))) < 0); (· (rw [if_pos c10] at H); (have c10b0 := decide_eq_true c10); clear c10; (obtain rfl := Option.some.inj H); (go_enter Tryd.func43, Tryd.ntmps43); (go_wp2_with (first | ((with_reducible refine gate_dst (N := 2) rfl ?_); refine box_event ?hg (N := 2) ?hd (cs := #[.string a0_0, .int .i64 a0_1, .int .i64 a0_2, .int .i64 a0_3, .slice A0_4 l0_4.length c0_4, .bool a0_5, .string a0_6]) (t := 68) ?hr ?_; (case hd => rfl); (case hg => rfl); (case hr => first | (go_simp; done) | (go_simp; rfl)); intro gb101 hg w11 hbox hb; have hB_ := zI hb HB; have n0_ := Aside0.mk (below_step hB_ hb); have n1_ := Aside0.mk (hbox); have n2_ := Aside0.mk (bx0 hg hB_); have n3_ := n2_; clear HB; have HB := n0_; have BK101 := n1_; have GW101 := n2_; have GE101 := n3_; clear n0_ n1_ n2_ n3_ hB_ hb hbox hg; have hcz12_0 := cz BK101.out 0; have hcz12_1 := cz BK101.out 1; have hcz12_2 := cz BK101.out 2; have hcz12_3 := cz BK101.out 3; have hcz12_4 := cz BK101.out 4; have hcz12_5 := cz BK101.out 5; have hcz12_6 := cz BK101.out 6; have hfz12_0 := blk_frozen BK101.out 0; have hfz12_1 := blk_frozen BK101.out 1; have hfz12_2 := blk_frozen BK101.out 2; have hfz12_3 := blk_frozen BK101.out 3; have hfz12_4 := blk_frozen BK101.out 4; have hfz12_5 := blk_frozen BK101.out 5; have hfz12_6 := blk_frozen BK101.out 6) | ((with_reducible refine gate_callee (f := 80) rfl ?_); refine gL (some 15) Tryd.func80 #[.slice A0_4 l0_4.length c0_4, .int .i64 (wrap64 (a1 - (a0_0.size : Int)))] ?_; (with_reducible refine (laws_szStringS.calls k _ _ l0_4 (wrap64 (a1 - (a0_0.size : Int))) t102 _ ?side1 ?side2 A6.out).mono ?_); (case side1 => exact Kd.C_below HR0_4.out (eI HB)); (case side2 => exact HC0_4.out); rintro e w' ⟨rfl, ⟨nd, rfl⟩⟩; refine ⟨_, rfl, ?_⟩))); go_ret; (exact ⟨rfl, eI HB⟩)); (· (rw [if_neg c10] at H); (have c10b0 := decide_eq_false c10); clear c10; (obtain rfl := Option.some.inj H); (go_enter Tryd.func43, Tryd.ntmps43); (go_wp2_with (first | ((with_reducible refine gate_dst (N := 2) rfl ?_); refine box_event ?hg (N := 2) ?hd (cs := #[.string a0_0, .int .i64 a0_1, .int .i64 a0_2, .int .i64 a0_3, .slice A0_4 l0_4.length c0_4, .bool a0_5, .string a0_6]) (t := 68) ?hr ?_; (case hd => rfl); (case hg => rfl); (case hr => first | (go_simp; done) | (go_simp; rfl)); intro gb101 hg w13 hbox hb; have hB_ := zI hb HB; have n0_ := Aside0.mk (below_step hB_ hb); have n1_ := Aside0.mk (hbox); have n2_ := Aside0.mk (bx0 hg hB_); have n3_ := n2_; clear HB; have HB := n0_; have BK101 := n1_; have GW101 := n2_; have GE101 := n3_; clear n0_ n1_ n2_ n3_ hB_ hb hbox hg; have hcz14_0 := cz BK101.out 0; have hcz14_1 := cz BK101.out 1; have hcz14_2 := cz BK101.out 2; have hcz14_3 := cz BK101.out 3; have hcz14_4 := cz BK101.out 4; have hcz14_5 := cz BK101.out 5; have hcz14_6 := cz BK101.out 6; have hfz14_0 := blk_frozen BK101.out 0; have hfz14_1 := blk_frozen BK101.out 1; have hfz14_2 := blk_frozen BK101.out 2; have hfz14_3 := blk_frozen BK101.out 3; have hfz14_4 := blk_frozen BK101.out 4; have hfz14_5 := blk_frozen BK101.out 5; have hfz14_6 := blk_frozen BK101.out 6) | ((with_reducible refine gate_callee (f := 80) rfl ?_); refine gL (some 15) Tryd.func80 #[.slice A0_4 l0_4.length c0_4, .int .i64 (wrap64 (a1 - (a0_0.size : Int)))] ?_; (with_reducible refine (laws_szStringS.calls k _ _ l0_4 (wrap64 (a1 - (a0_0.size : Int))) t102 _ ?side1 ?side2 A6.out).mono ?_); (case side1 => exact Kd.C_below HR0_4.out (eI HB)); (case side2 => exact HC0_4.out); rintro e w' ⟨rfl, ⟨nd, rfl⟩⟩; refine ⟨_, rfl, ?_⟩))); go_ret; (exact ⟨rfl, eI HB⟩))
/-! ### laws_szFieldS: function 9 -/
def laws_szFieldS.l0 : Nat → List (S68) → Int → Int → Option (Int)
 | 0, _, _, _ => none
 | k + 1, x0, x1, x5 => if x5 < (x0.length : Int) then (if 0 ≤ x5 then ((laws_szField.f k ((rd_T68 x0 x5).f0) ((rd_T68 x0 x5).f1) ((rd_T68 x0 x5).f2) ((rd_T68 x0 x5).f3) ((rd_T68 x0 x5).f4) ((rd_T68 x0 x5).f5) ((rd_T68 x0 x5).f6) x1).bind fun t102 => (if t102 < 0 then (some (-1)) else (laws_szFieldS.l0 k x0 t102 (wrap64 (x5 + 1))))) else (none)) else (some x1)
def laws_szFieldS.f (k : Nat) (l0 : List (S68)) (a1 : Int) : Option (Int) := if (wrap64 (a1 - (l0.length : Int))) < 0 then (some (-1)) else (laws_szFieldS.l0 k l0 (wrap64 (a1 - (l0.length : Int))) 0)
set_option maxHeartbeats 8000000 in
set_option maxRecDepth 100000 in
theorem laws_szFieldS.calls (k : Nat) (A0 : Option Addr) (c0 : Nat) (l0 : List (S68)) (a1 : Int) (r : Int) (w : World) (hr0 : Kd.C k68 w A0 l0.length l0) (hc0 : l0.length ≤ c0) (h : laws_szFieldS.f k l0 a1 = some r) :
  Calls Tryd.prog 9 #[.slice A0 l0.length c0, .int .i64 a1] w fun e w' => e = .returned (.int .i64 r) ∧ Below w.heap.size w w' := by
 (have hu68 := Tryd.underlying68); (have HR0 := Aside0.mk hr0); (have HC0 := Aside0.mk hc0); clear hr0 hc0; (have HB := Aside0.mk (Below.refl w.heap.size w)); (unfold laws_szFieldS.f at h); (have H := h); clear h; (by_cases c3 : (wrap64 (a1 - (l0.length : Int))) < 0); (· (rw [if_pos c3] at H); (have c3b0 := decide_eq_true c3); clear c3; (obtain rfl := Option.some.inj H); (go_enter Tryd.func9, Tryd.ntmps9); (go_wp2); go_ret; (exact ⟨rfl, eI HB⟩))
 ·rw [if_neg c3] at H
  (have c3b0 := decide_eq_false c3); clear c3; (have H' := Aside0.mk H); clear H; (go_enter Tryd.func9, Tryd.ntmps9); (go_wp2); (go_loopg [1, 5] k (fun kq v1 v5 w' => ∃ (x1_1 : Int) (x5_1 : Int), v1 = .int .i64 x1_1 ∧ v5 = .int .i64 x5_1 ∧ Aside0 (laws_szFieldS.l0 kq l0 x1_1 x5_1 = some r) ∧ Aside0 (kq ≤ k) ∧ Aside0 (Below w.heap.size w w')))
  case atStart => exact ⟨(wrap64 (a1 - (l0.length : Int))), (0), (by first | rfl | (simp; done) | (simp [*]; done)), (by first | rfl | (simp; done) | (simp [*]; done)), H', ⟨Nat.le_refl _⟩, ⟨eI HB⟩⟩
  case round =>
   (clear H'); (try clear p2); (try clear c3); (try clear c3b0); (obtain ⟨x1_1, x5_1, rfl, rfl, HA, HK1, HB⟩ := hrel)
   cases gk with
   | zero => exact absurd HA.out (by simp [laws_szFieldS.l0])
   | succ k1 =>
    (have H := HA.out); clear HA; (simp only [laws_szFieldS.l0] at H); (by_cases c4 : x5_1 < (l0.length : Int))
    ·rw [if_pos c4] at H
     (have c4b0 := decide_eq_true c4); clear c4; (by_cases c5 : 0 ≤ x5_1)
     ·rw [if_pos c5] at H
      (have c5b0 := decide_eq_true c5); clear c5; (replace H := obS H); (obtain ⟨t102, A6, H⟩ := H); (by_cases c7 : t102 < 0)
      ·rw [if_pos c7] at H
       (have c7b0 := decide_eq_true c7); clear c7; (obtain rfl := Option.some.inj H); (have p101 : 0 ≤ (x5_1 : Int) := odt); (have q101 : x5_1 < (l0.length : Int) := odt); (obtain ⟨ad101, A101_4, c101_4, e101, hx101_0, hx101_1, hx101_2, hx101_3, hx101_4, hx101_5, hx101_6, hl101_4, hi101_4⟩ := at_T68 HR0.out x5_1 p101 q101); (cases e101); (replace hx101_0 := hcI HB hx101_0); (replace hx101_1 := hcI HB hx101_1); (replace hx101_2 := hcI HB hx101_2); (replace hx101_3 := hcI HB hx101_3); (replace hx101_4 := hcI HB hx101_4); (replace hx101_5 := hcI HB hx101_5); (replace hx101_6 := hcI HB hx101_6); (have HR101_4 := Aside0.mk hi101_4); (have HC101_4 := Aside0.mk hl101_4); clear hi101_4 hl101_4; (replace p101 := eq_true p101); (replace q101 := eq_true q101); (go_wp2_with (first | ((with_reducible refine gate_callee (f := 43) rfl ?_); refine gL (some 23) Tryd.func43 #[.agg #[.string ((rd_T68 l0 x5_1).f0), .int .i64 ((rd_T68 l0 x5_1).f1), .int .i64 ((rd_T68 l0 x5_1).f2), .int .i64 ((rd_T68 l0 x5_1).f3), .slice A101_4 ((rd_T68 l0 x5_1).f4).length c101_4, .bool ((rd_T68 l0 x5_1).f5), .string ((rd_T68 l0 x5_1).f6)], .int .i64 x1_1] ?_; (with_reducible refine (laws_szField.calls k1 ((rd_T68 l0 x5_1).f0) ((rd_T68 l0 x5_1).f1) ((rd_T68 l0 x5_1).f2) ((rd_T68 l0 x5_1).f3) _ _ ((rd_T68 l0 x5_1).f4) ((rd_T68 l0 x5_1).f5) ((rd_T68 l0 x5_1).f6) x1_1 t102 _ ?side1 ?side2 A6.out).mono ?_); (case side1 => exact Kd.C_below HR101_4.out (eI HB)); (case side2 => exact HC101_4.out); rintro e w8 ⟨rfl, hb⟩; refine ⟨_, rfl, ?_⟩; have n0_ := Aside0.mk (sI hb HB); clear HB; have HB := n0_; clear n0_; (try clear hb); (try clear hb2); (try clear hk); (try clear hi)))); go_ret; (exact ⟨rfl, eI HB⟩)
      ·rw [if_neg c7] at H
       (have c7b0 := decide_eq_false c7); clear c7; (have H' := Aside0.mk H); clear H; (have p101 : 0 ≤ (x5_1 : Int) := odt); (have q101 : x5_1 < (l0.length : Int) := odt); (obtain ⟨ad101, A101_4, c101_4, e101, hx101_0, hx101_1, hx101_2, hx101_3, hx101_4, hx101_5, hx101_6, hl101_4, hi101_4⟩ := at_T68 HR0.out x5_1 p101 q101); (cases e101); (replace hx101_0 := hcI HB hx101_0); (replace hx101_1 := hcI HB hx101_1); (replace hx101_2 := hcI HB hx101_2); (replace hx101_3 := hcI HB hx101_3); (replace hx101_4 := hcI HB hx101_4); (replace hx101_5 := hcI HB hx101_5); (replace hx101_6 := hcI HB hx101_6); (have HR101_4 := Aside0.mk hi101_4); (have HC101_4 := Aside0.mk hl101_4); clear hi101_4 hl101_4; (replace p101 := eq_true p101); (replace q101 := eq_true q101); (go_wp2_with (first | ((with_reducible refine gate_callee (f := 43) rfl ?_); refine gL (some 23) Tryd.func43 #[.agg #[.string ((rd_T68 l0 x5_1).f0), .int .i64 ((rd_T68 l0 x5_1).f1), .int .i64 ((rd_T68 l0 x5_1).f2), .int .i64 ((rd_T68 l0 x5_1).f3), .slice A101_4 ((rd_T68 l0 x5_1).f4).length c101_4, .bool ((rd_T68 l0 x5_1).f5), .string ((rd_T68 l0 x5_1).f6)], .int .i64 x1_1] ?_; (with_reducible refine (laws_szField.calls k1 ((rd_T68 l0 x5_1).f0) ((rd_T68 l0 x5_1).f1) ((rd_T68 l0 x5_1).f2) ((rd_T68 l0 x5_1).f3) _ _ ((rd_T68 l0 x5_1).f4) ((rd_T68 l0 x5_1).f5) ((rd_T68 l0 x5_1).f6) x1_1 t102 _ ?side1 ?side2 A6.out).mono ?_); (case side1 => exact Kd.C_below HR101_4.out (eI HB)); (case side2 => exact HC101_4.out); rintro e w9 ⟨rfl, hb⟩; refine ⟨_, rfl, ?_⟩; have n0_ := Aside0.mk (sI hb HB); clear HB; have HB := n0_; clear n0_; (try clear hb); (try clear hb2); (try clear hk); (try clear hi)))); go_roundg k1
       case measure => have := HK1.out; omega
       case rel => exact ⟨(t102), (wrap64 (x5_1 + 1)), (by first | rfl | (simp; done) | (simp [*]; done)), (by first | rfl | (simp; done) | (simp [*]; done)), H', ⟨by have := HK1.out; omega⟩, ⟨eI HB⟩⟩
     ·rw [if_neg c5] at H
      exact absurd H (by simp)
    ·rw [if_neg c4] at H
     (have c4b0 := decide_eq_false c4); clear c4; (obtain rfl := Option.some.inj H); (go_wp2); go_ret; (exact ⟨rfl, eI HB⟩)
/-! ### laws_FnExactIsComplete: function 4 -/
def laws_FnExactIsComplete.j0 : Nat → List (S68) → List (S76) → List (S69) → List (S58) → Bool → Option (Bool)
 | 0, _, _, _, _, _ => none
 | k + 1, x0, x1, x8, x9, x47 => if x47 = true then (some false) else ((laws_toFieldS.f k x0).bind fun t119 => ((laws_eqFieldS.f k x8 t119).bind fun t122 => (if t122 = true then ((laws_toAnswerS.f k x1).bind fun t123 => ((laws_eqAnswerS.f k x9 t123).bind fun t126 => (if t126 = true then (some true) else (some false)))) else (some false))))
def laws_FnExactIsComplete.f (k : Nat) (l0 : List (S68)) (l1 : List (S76)) : Option (Bool) := (laws_szFieldS.f k l0 1048576).bind fun t101 => (if t101 < 0 then (some true) else ((laws_szAnswerS.f k l1 t101).bind fun t102 => (if t102 < 0 then (some true) else ((laws_toFieldS.f k l0).bind fun t103 => ((laws_toAnswerS.f k l1).bind fun t106 => ((spec_IsComplete.f k t103 t106).bind fun bt109 => ((laws_toFieldS.f k l0).bind fun t111 => ((laws_toAnswerS.f k l1).bind fun t114 => ((impl_IsComplete.f k t111 t114).bind fun bt117 => (if (bt117.1 != bt109.1) = true then (laws_FnExactIsComplete.j0 k l0 l1 t111 t114 true) else (laws_FnExactIsComplete.j0 k l0 l1 t111 t114 (bt117.2 != bt109.2))))))))))))
set_option maxHeartbeats 8000000 in
set_option maxRecDepth 100000 in
theorem laws_FnExactIsComplete.calls (k : Nat) (A0 : Option Addr) (c0 : Nat) (l0 : List (S68)) (A1 : Option Addr) (c1 : Nat) (l1 : List (S76)) (r : Bool) (w : World) (hr0 : Kd.C k68 w A0 l0.length l0) (hc0 : l0.length ≤ c0) (hr1 : Kd.C k76 w A1 l1.length l1) (hc1 : l1.length ≤ c1) (hG : GE w) (h : laws_FnExactIsComplete.f k l0 l1 = some r) (ht_ : Aside0 (r = true)) :
  Calls Tryd.prog 4 #[.slice A0 l0.length c0, .slice A1 l1.length c1] w fun e w' => e = .returned (.bool r) ∧ Below w.heap.size w w' := by
 (have HR0 := Aside0.mk hr0); (have HC0 := Aside0.mk hc0); clear hr0 hc0; (have HR1 := Aside0.mk hr1); (have HC1 := Aside0.mk hc1); clear hr1 hc1; (have HG := Aside0.mk hG); clear hG; (have HB := Aside0.mk (Below.refl w.heap.size w)); (unfold laws_FnExactIsComplete.f at h); (have H := h); clear h; (replace H := obS H); (obtain ⟨t101, A3, H⟩ := H); (by_cases c4 : t101 < 0); (· (rw [if_pos c4] at H); (have c4b0 := decide_eq_true c4); clear c4; (obtain rfl := Option.some.inj H); (go_enter Tryd.func4, Tryd.ntmps4); (go_wp2_with (first | ((with_reducible refine gate_callee (f := 9) rfl ?_); refine gL (some 14) Tryd.func9 #[.slice A0 l0.length c0, .int .i64 1048576] ?_; (with_reducible refine (laws_szFieldS.calls k _ _ l0 1048576 t101 _ ?side1 ?side2 A3.out).mono ?_); (case side1 => exact cI HR0.out); (case side2 => exact HC0.out); rintro e w5 ⟨rfl, hb⟩; refine ⟨_, rfl, ?_⟩; have n0_ := Aside0.mk (sI hb HB); clear HB; have HB := n0_; clear n0_; (try clear hb); (try clear hb2); (try clear hk); (try clear hi)))); go_ret; (exact ⟨rfl, eI HB⟩))
 ·rw [if_neg c4] at H
  (have c4b0 := decide_eq_false c4); clear c4; (replace H := obS H); (obtain ⟨t102, A6, H⟩ := H); (by_cases c7 : t102 < 0); (· (rw [if_pos c7] at H); (have c7b0 := decide_eq_true c7); clear c7; (obtain rfl := Option.some.inj H); (go_enter Tryd.func4, Tryd.ntmps4); (go_wp2_with (first | ((with_reducible refine gate_callee (f := 9) rfl ?_); refine gL (some 14) Tryd.func9 #[.slice A0 l0.length c0, .int .i64 1048576] ?_; (with_reducible refine (laws_szFieldS.calls k _ _ l0 1048576 t101 _ ?side1 ?side2 A3.out).mono ?_); (case side1 => exact cI HR0.out); (case side2 => exact HC0.out); rintro e w8 ⟨rfl, hb⟩; refine ⟨_, rfl, ?_⟩; have n0_ := Aside0.mk (sI hb HB); clear HB; have HB := n0_; clear n0_; (try clear hb); (try clear hb2); (try clear hk); (try clear hi)) | ((with_reducible refine gate_callee (f := 14) rfl ?_); refine gL (some 19) Tryd.func14 #[.slice A1 l1.length c1, .int .i64 t101] ?_; (with_reducible refine (laws_szAnswerS.calls k _ _ l1 t101 t102 _ ?side1 ?side2 A6.out).mono ?_); (case side1 => exact Kd.C_below HR1.out (eI HB)); (case side2 => exact HC1.out); rintro e w9 ⟨rfl, hb⟩; refine ⟨_, rfl, ?_⟩; have n0_ := Aside0.mk (sI hb HB); clear HB; have HB := n0_; clear n0_; (try clear hb); (try clear hb2); (try clear hk); (try clear hi)))); go_ret; (exact ⟨rfl, eI HB⟩))
  ·rw [if_neg c7] at H
   (have c7b0 := decide_eq_false c7); clear c7; (replace H := obS H); (obtain ⟨t103, A10, H⟩ := H); (replace H := obS H); (obtain ⟨t106, A11, H⟩ := H); (replace H := obS H); (obtain ⟨⟨t109, t110⟩, A12, H⟩ := H); (replace H : ((laws_toFieldS.f k l0).bind fun t111 => ((laws_toAnswerS.f k l1).bind fun t114 => ((impl_IsComplete.f k t111 t114).bind fun bt117 => (if (bt117.1 != t109) = true then (laws_FnExactIsComplete.j0 k l0 l1 t111 t114 true) else (laws_FnExactIsComplete.j0 k l0 l1 t111 t114 (bt117.2 != t110)))))) = some r := H); (replace H := obS H); (obtain ⟨t111, A13, H⟩ := H); (replace H := obS H); (obtain ⟨t114, A14, H⟩ := H); (replace H := obS H); (obtain ⟨⟨t117, t118⟩, A15, H⟩ := H); (replace H : (if (t117 != t109) = true then (laws_FnExactIsComplete.j0 k l0 l1 t111 t114 true) else (laws_FnExactIsComplete.j0 k l0 l1 t111 t114 (t118 != t110))) = some r := H); (have HC16 := Aside0.mk H); clear H; (go_enter Tryd.func4, Tryd.ntmps4)
   go_upto_region 12 with (first | ((with_reducible refine gate_callee (f := 9) rfl ?_); refine gL (some 14) Tryd.func9 #[.slice A0 l0.length c0, .int .i64 1048576] ?_; (with_reducible refine (laws_szFieldS.calls k _ _ l0 1048576 t101 _ ?side1 ?side2 A3.out).mono ?_); (case side1 => exact cI HR0.out); (case side2 => exact HC0.out); rintro e w17 ⟨rfl, hb⟩; refine ⟨_, rfl, ?_⟩; have n0_ := Aside0.mk (sI hb HB); clear HB; have HB := n0_; clear n0_; (try clear hb); (try clear hb2); (try clear hk); (try clear hi)) | ((with_reducible refine gate_callee (f := 14) rfl ?_); refine gL (some 19) Tryd.func14 #[.slice A1 l1.length c1, .int .i64 t101] ?_; (with_reducible refine (laws_szAnswerS.calls k _ _ l1 t101 t102 _ ?side1 ?side2 A6.out).mono ?_); (case side1 => exact Kd.C_below HR1.out (eI HB)); (case side2 => exact HC1.out); rintro e w18 ⟨rfl, hb⟩; refine ⟨_, rfl, ?_⟩; have n0_ := Aside0.mk (sI hb HB); clear HB; have HB := n0_; clear n0_; (try clear hb); (try clear hb2); (try clear hk); (try clear hi)) | ((with_reducible refine gate_callee (f := 11) rfl ?_); refine gL (some 24) Tryd.func11 #[.slice A0 l0.length c0] ?_; (with_reducible refine (laws_toFieldS.calls k _ _ l0 t103 _ ?side1 ?side2 A10.out).mono ?_); (case side1 => exact Kd.C_below HR0.out (eI HB)); (case side2 => exact HC0.out); rintro e w19 ⟨v104, rfl, ho0, hb⟩; refine ⟨_, rfl, ?_⟩; have n0_ := Aside0.mk (Kd.S_lower ho0 (below_size (eI HB))); have n1_ := Aside0.mk (sI hb HB); clear HB; have HO105 := n0_; have HB := n1_; clear n0_ n1_; (try clear hb); (try clear hb2); (try clear hk); (try clear hi); (try clear ho0)) | ((with_reducible refine gate_callee (f := 16) rfl ?_); refine gL (some 26) Tryd.func16 #[.slice A1 l1.length c1] ?_; (with_reducible refine (laws_toAnswerS.calls k _ _ l1 t106 _ ?side1 ?side2 A11.out).mono ?_); (case side1 => exact Kd.C_below HR1.out (eI HB)); (case side2 => exact HC1.out); rintro e w20 ⟨v107, rfl, ho0, hb⟩; refine ⟨_, rfl, ?_⟩; have n0_ := Aside0.mk (Kd.S_below (by (with_reducible repeat (first | apply Kd.S_alloc | apply Kd.S_drewN | apply Kd.S_drew)); exact HO105.out) hb); have n1_ := Aside0.mk (Kd.R_lower ho0 (below_size (eI HB))); have n2_ := Aside0.mk (sI hb HB); clear HO105 HB; have HO105 := n0_; have HO108 := n1_; have HB := n2_; clear n0_ n1_ n2_; (try clear hb); (try clear hb2); (try clear hk); (try clear hi); (try clear ho0); obtain ⟨Ao21, co21, eo21⟩ := Kd.S_slice HO105.out; subst eo21; obtain ⟨Ao22, co22, eo22⟩ := Kd.R_slice HO108.out; subst eo22) | ((with_reducible refine gate_callee (f := 15) rfl ?_); refine gL (some 27) Tryd.func15 #[.slice Ao21 t103.length co21, .slice Ao22 t106.length co22] ?_; (with_reducible refine (spec_IsComplete.calls k _ _ t103 _ _ t106 t109 t110 _ ?side1 ?side2 ?side3 ?side4 A12.out).mono ?_); (case side1 => repeat (first | exact (Kd.S_reads' HO105.out).2.2 | (with_reducible first | refine cA ?_ _ | refine cN ?_ _ | refine cD ?_))); (case side2 => exact (Kd.S_reads' HO105.out).2.1); (case side3 => repeat (first | exact (Kd.R_reads' HO108.out).2.2 | (with_reducible first | refine cA ?_ _ | refine cN ?_ _ | refine cD ?_))); (case side4 => exact (Kd.R_reads' HO108.out).2.1); rintro e w23 ⟨rfl, hb⟩; refine ⟨_, rfl, ?_⟩; have n0_ := Aside0.mk (Kd.S_below (by (with_reducible repeat (first | apply Kd.S_alloc | apply Kd.S_drewN | apply Kd.S_drew)); exact HO105.out) hb); have n1_ := Aside0.mk (rbI hb HO108); have n2_ := Aside0.mk (sI hb HB); clear HO105 HO108 HB; have HO105 := n0_; have HO108 := n1_; have HB := n2_; clear n0_ n1_ n2_; (try clear hb); (try clear hb2); (try clear hk); (try clear hi)) | ((with_reducible refine gate_callee (f := 11) rfl ?_); refine gL (some 31) Tryd.func11 #[.slice A0 l0.length c0] ?_; (with_reducible refine (laws_toFieldS.calls k _ _ l0 t111 _ ?side1 ?side2 A13.out).mono ?_); (case side1 => exact Kd.C_below HR0.out (eI HB)); (case side2 => exact HC0.out); rintro e w24 ⟨v112, rfl, ho0, hb⟩; refine ⟨_, rfl, ?_⟩; have n0_ := Aside0.mk (Kd.S_elder' (by (with_reducible repeat (first | apply Kd.S_alloc | apply Kd.S_drewN | apply Kd.S_drew)); exact HO105.out) (Kd.S_base ho0) hb); have n1_ := Aside0.mk (rbI hb HO108); have n2_ := Aside0.mk (Kd.S_lower (Kd.S_new' ho0 (Kd.S_lt (by (with_reducible repeat (first | apply Kd.S_alloc | apply Kd.S_drewN | apply Kd.S_drew)); exact HO105.out))) (below_size (eI HB))); have n3_ := Aside0.mk (sI hb HB); clear HO105 HO108 HB; have HO105 := n0_; have HO108 := n1_; have HO113 := n2_; have HB := n3_; clear n0_ n1_ n2_ n3_; (try clear hb); (try clear hb2); (try clear hk); (try clear hi); (try clear ho0)) | ((with_reducible refine gate_callee (f := 16) rfl ?_); refine gL (some 33) Tryd.func16 #[.slice A1 l1.length c1] ?_; (with_reducible refine (laws_toAnswerS.calls k _ _ l1 t114 _ ?side1 ?side2 A14.out).mono ?_); (case side1 => exact Kd.C_below HR1.out (eI HB)); (case side2 => exact HC1.out); rintro e w25 ⟨v115, rfl, ho0, hb⟩; refine ⟨_, rfl, ?_⟩; have n0_ := Aside0.mk (Kd.S_below (by (with_reducible repeat (first | apply Kd.S_alloc | apply Kd.S_drewN | apply Kd.S_drew)); exact HO105.out) hb); have n1_ := Aside0.mk (Kd.R_elder' (rI HO108) (Kd.R_base ho0) hb); have n2_ := Aside0.mk (Kd.S_below (by (with_reducible repeat (first | apply Kd.S_alloc | apply Kd.S_drewN | apply Kd.S_drew)); exact HO113.out) hb); have n3_ := Aside0.mk (Kd.R_lower (Kd.R_new' ho0 (Kd.R_lt (rI HO108))) (below_size (eI HB))); have n4_ := Aside0.mk (sI hb HB); clear HO105 HO108 HO113 HB; have HO105 := n0_; have HO108 := n1_; have HO113 := n2_; have HO116 := n3_; have HB := n4_; clear n0_ n1_ n2_ n3_ n4_; (try clear hb); (try clear hb2); (try clear hk); (try clear hi); (try clear ho0); obtain ⟨Ao26, co26, eo26⟩ := Kd.S_slice HO113.out; subst eo26; obtain ⟨Ao27, co27, eo27⟩ := Kd.R_slice HO116.out; subst eo27) | ((with_reducible refine gate_callee (f := 17) rfl ?_); refine gL (some 37) Tryd.func17 #[.slice Ao26 t111.length co26, .slice Ao27 t114.length co27] ?_; (with_reducible refine (impl_IsComplete.calls k _ _ t111 _ _ t114 t117 t118 _ ?side1 ?side2 ?side3 ?side4 ?side5 A15.out).mono ?_); (case side1 => repeat (first | exact (Kd.S_reads' HO113.out).2.2 | (with_reducible first | refine cA ?_ _ | refine cN ?_ _ | refine cD ?_))); (case side2 => exact (Kd.S_reads' HO113.out).2.1); (case side3 => repeat (first | exact (Kd.R_reads' HO116.out).2.2 | (with_reducible first | refine cA ?_ _ | refine cN ?_ _ | refine cD ?_))); (case side4 => exact (Kd.R_reads' HO116.out).2.1); (case side5 => first | exact GE.below HG.out (eI HB) | (repeat (first | exact HG.out | (with_reducible first | apply GE.drewN | apply GE.drew | apply GE.alloc)))); rintro e w28 ⟨rfl, hb⟩; refine ⟨_, rfl, ?_⟩; have n0_ := Aside0.mk (Kd.S_below (by (with_reducible repeat (first | apply Kd.S_alloc | apply Kd.S_drewN | apply Kd.S_drew)); exact HO105.out) hb); have n1_ := Aside0.mk (rbI hb HO108); have n2_ := Aside0.mk (Kd.S_below (by (with_reducible repeat (first | apply Kd.S_alloc | apply Kd.S_drewN | apply Kd.S_drew)); exact HO113.out) hb); have n3_ := Aside0.mk (rbI hb HO116); have n4_ := Aside0.mk (sI hb HB); clear HO105 HO108 HO113 HO116 HB; have HO105 := n0_; have HO108 := n1_; have HO113 := n2_; have HO116 := n3_; have HB := n4_; clear n0_ n1_ n2_ n3_ n4_; (try clear hb); (try clear hb2); (try clear hk); (try clear hi)))
   ((try simp only [Act.put, aS1, aS2, aS3])); (go_cut [47] (fun v47 wc => ∃ (kq : Nat) (x47_15 : Bool), v47 = .bool x47_15 ∧ Aside0 (laws_FnExactIsComplete.j0 kq l0 l1 t111 t114 x47_15 = some r) ∧ Aside0 (kq ≤ k) ∧ Aside0 (Kd.S k69 69 wc w.heap.size (fun _ => True) (.slice Ao26 t111.length co26) t111) ∧ Aside0 (Kd.R k58 58 wc w.heap.size (fun _ => True) (.slice Ao27 t114.length co27) t114) ∧ Aside0 (Below w.heap.size w wc)))
   case first =>
    (have H := HC16.out); clear HC16; (by_cases c29 : (t117 != t109) = true)
    ·rw [if_pos c29] at H
     (have c29b0 : (t117 != t109) = true := c29); ((try (have c29b1 : decide (t117 = t109) = false := by simpa using c29))); ((try (have c29b2 : (t117 == t109) = false := by simpa using c29))); ((try (have c29b3 : ¬ (t117 = t109) := by simpa using c29))); clear c29; ((first | rw [c29b0] | (simp only [i64_w, i32_w]; rw [c29b0]) | skip)); (have H' := Aside0.mk H); clear H; (go_wp2); (go_meet)
     case rel => exact ⟨_, (true), (by first | rfl | (simp; done) | (simp [*]; done)), H', ⟨by first | omega | exact Nat.le_refl _⟩, ⟨by (with_reducible repeat (first | apply Kd.S_alloc | apply Kd.S_drewN | apply Kd.S_drew)); exact Kd.S_mono HO113.out (fun _ hk => trivial)⟩, ⟨by (with_reducible repeat (first | apply rA | apply rN | apply rD)); exact Kd.R_mono HO116.out (fun _ hk => trivial)⟩, ⟨eI HB⟩⟩
    ·rw [if_neg c29] at H
     (have c29b0 : (t117 != t109) = false := by simpa using c29); ((try (have c29b1 : decide (t117 = t109) = true := by simpa using c29))); ((try (have c29b2 : (t117 == t109) = true := by simpa using c29))); clear c29; ((first | rw [c29b0] | (simp only [i64_w, i32_w]; rw [c29b0]) | skip)); (have H' := Aside0.mk H); clear H; (go_wp2); (go_meet)
     case rel => exact ⟨_, ((t118 != t110)), (by first | rfl | (simp; done) | (simp [*]; done)), H', ⟨by first | omega | exact Nat.le_refl _⟩, ⟨by (with_reducible repeat (first | apply Kd.S_alloc | apply Kd.S_drewN | apply Kd.S_drew)); exact Kd.S_mono HO113.out (fun _ hk => trivial)⟩, ⟨by (with_reducible repeat (first | apply rA | apply rN | apply rD)); exact Kd.R_mono HO116.out (fun _ hk => trivial)⟩, ⟨eI HB⟩⟩
   case rest =>
    clear HC16; (try clear c1); (try clear c2); (try clear p2); (try clear c4); (try clear c4b0); (try clear c7); (try clear c7b0); (try clear c9); (try clear c11); (try clear c14); (try clear c15); (try clear c16); (try clear c17); (try clear c29); (try clear c29b0); (try clear c29b1); (try clear c29b2); (obtain ⟨kq, x47_15, rfl, HA, HJ15, HO_8, HO_9, HB⟩ := hcut)
    cases kq with
    | zero => exact absurd HA.out (by simp [laws_FnExactIsComplete.j0])
    | succ kj15 =>
     (have H := HA.out); clear HA; (simp only [laws_FnExactIsComplete.j0] at H); (by_cases c30 : x47_15 = true); (· subst c30; (rw [if_pos rfl] at H); (obtain rfl := Option.some.inj H); (exact absurd ht_.out (by decide)))
     ·replace c30 := Bool.eq_false_iff.mpr c30
      subst c30; (rw [if_neg (show ¬ (false = true) by decide)] at H); (replace H := obS H); (obtain ⟨t119, A31, H⟩ := H); (replace H := obS H); (obtain ⟨t122, A32, H⟩ := H); (by_cases c33 : t122 = true)
      ·subst c33
       (rw [if_pos rfl] at H); (replace H := obS H); (obtain ⟨t123, A34, H⟩ := H); (replace H := obS H); (obtain ⟨t126, A35, H⟩ := H); (by_cases c36 : t126 = true)
       ·subst c36
        (rw [if_pos rfl] at H); (obtain rfl := Option.some.inj H)
        go_wp2_with (first | ((with_reducible refine gate_callee (f := 11) rfl ?_); refine gL (some 50) Tryd.func11 #[.slice A0 l0.length c0] ?_; (with_reducible refine (laws_toFieldS.calls kj15 _ _ l0 t119 _ ?side1 ?side2 A31.out).mono ?_); (case side1 => exact Kd.C_below HR0.out (eI HB)); (case side2 => exact HC0.out); rintro e w37 ⟨v120, rfl, ho0, hb⟩; refine ⟨_, rfl, ?_⟩; have n0_ := Aside0.mk (Kd.S_elder' (by (with_reducible repeat (first | apply Kd.S_alloc | apply Kd.S_drewN | apply Kd.S_drew)); exact HO_8.out) (Kd.S_base ho0) hb); have n1_ := Aside0.mk (rbI hb HO_9); have n2_ := Aside0.mk (Kd.S_lower (Kd.S_new' ho0 (Kd.S_lt (by (with_reducible repeat (first | apply Kd.S_alloc | apply Kd.S_drewN | apply Kd.S_drew)); exact HO_8.out))) (below_size (eI HB))); have n3_ := Aside0.mk (sI hb HB); clear HO_8 HO_9 HB; have HO_8 := n0_; have HO_9 := n1_; have HO121 := n2_; have HB := n3_; clear n0_ n1_ n2_ n3_; (try clear hb); (try clear hb2); (try clear hk); (try clear hi); (try clear ho0); obtain ⟨Ao38, co38, eo38⟩ := Kd.S_slice HO121.out; subst eo38) | ((with_reducible refine gate_callee (f := 13) rfl ?_); refine gL (some 51) Tryd.func13 #[.slice Ao26 t111.length co26, .slice Ao38 t119.length co38] ?_; (with_reducible refine (laws_eqFieldS.calls kj15 _ _ t111 _ _ t119 true _ ?side1 ?side2 ?side3 ?side4 A32.out ⟨rfl⟩).mono ?_); (case side1 => repeat (first | exact (Kd.S_reads' HO_8.out).2.2 | (with_reducible first | refine cA ?_ _ | refine cN ?_ _ | refine cD ?_))); (case side2 => exact (Kd.S_reads' HO_8.out).2.1); (case side3 => repeat (first | exact (Kd.S_reads' HO121.out).2.2 | (with_reducible first | refine cA ?_ _ | refine cN ?_ _ | refine cD ?_))); (case side4 => exact (Kd.S_reads' HO121.out).2.1); rintro e w39 ⟨rfl, hb⟩; refine ⟨_, rfl, ?_⟩; have n0_ := Aside0.mk (Kd.S_below (by (with_reducible repeat (first | apply Kd.S_alloc | apply Kd.S_drewN | apply Kd.S_drew)); exact HO_8.out) hb); have n1_ := Aside0.mk (rbI hb HO_9); have n2_ := Aside0.mk (Kd.S_below (by (with_reducible repeat (first | apply Kd.S_alloc | apply Kd.S_drewN | apply Kd.S_drew)); exact HO121.out) hb); have n3_ := Aside0.mk (sI hb HB); clear HO_8 HO_9 HO121 HB; have HO_8 := n0_; have HO_9 := n1_; have HO121 := n2_; have HB := n3_; clear n0_ n1_ n2_ n3_; (try clear hb); (try clear hb2); (try clear hk); (try clear hi)) | ((with_reducible refine gate_callee (f := 16) rfl ?_); refine gL (some 55) Tryd.func16 #[.slice A1 l1.length c1] ?_; (with_reducible refine (laws_toAnswerS.calls kj15 _ _ l1 t123 _ ?side1 ?side2 A34.out).mono ?_); (case side1 => exact Kd.C_below HR1.out (eI HB)); (case side2 => exact HC1.out); rintro e w40 ⟨v124, rfl, ho0, hb⟩; refine ⟨_, rfl, ?_⟩; have n0_ := Aside0.mk (Kd.S_below (by (with_reducible repeat (first | apply Kd.S_alloc | apply Kd.S_drewN | apply Kd.S_drew)); exact HO_8.out) hb); have n1_ := Aside0.mk (Kd.R_elder' (rI HO_9) (Kd.R_base ho0) hb); have n2_ := Aside0.mk (Kd.S_below (by (with_reducible repeat (first | apply Kd.S_alloc | apply Kd.S_drewN | apply Kd.S_drew)); exact HO121.out) hb); have n3_ := Aside0.mk (Kd.R_lower (Kd.R_new' ho0 (Kd.R_lt (rI HO_9))) (below_size (eI HB))); have n4_ := Aside0.mk (sI hb HB); clear HO_8 HO_9 HO121 HB; have HO_8 := n0_; have HO_9 := n1_; have HO121 := n2_; have HO125 := n3_; have HB := n4_; clear n0_ n1_ n2_ n3_ n4_; (try clear hb); (try clear hb2); (try clear hk); (try clear hi); (try clear ho0); obtain ⟨Ao41, co41, eo41⟩ := Kd.R_slice HO125.out; subst eo41) | ((with_reducible refine gate_callee (f := 18) rfl ?_); refine gL (some 56) Tryd.func18 #[.slice Ao27 t114.length co27, .slice Ao41 t123.length co41] ?_; (with_reducible refine (laws_eqAnswerS.calls kj15 _ _ t114 _ _ t123 true _ ?side1 ?side2 ?side3 ?side4 A35.out ⟨rfl⟩).mono ?_); (case side1 => repeat (first | exact (Kd.R_reads' HO_9.out).2.2 | (with_reducible first | refine cA ?_ _ | refine cN ?_ _ | refine cD ?_))); (case side2 => exact (Kd.R_reads' HO_9.out).2.1); (case side3 => repeat (first | exact (Kd.R_reads' HO125.out).2.2 | (with_reducible first | refine cA ?_ _ | refine cN ?_ _ | refine cD ?_))); (case side4 => exact (Kd.R_reads' HO125.out).2.1); rintro e w42 ⟨rfl, hb⟩; refine ⟨_, rfl, ?_⟩; have n0_ := Aside0.mk (Kd.S_below (by (with_reducible repeat (first | apply Kd.S_alloc | apply Kd.S_drewN | apply Kd.S_drew)); exact HO_8.out) hb); have n1_ := Aside0.mk (rbI hb HO_9); have n2_ := Aside0.mk (Kd.S_below (by (with_reducible repeat (first | apply Kd.S_alloc | apply Kd.S_drewN | apply Kd.S_drew)); exact HO121.out) hb); have n3_ := Aside0.mk (rbI hb HO125); have n4_ := Aside0.mk (sI hb HB); clear HO_8 HO_9 HO121 HO125 HB; have HO_8 := n0_; have HO_9 := n1_; have HO121 := n2_; have HO125 := n3_; have HB := n4_; clear n0_ n1_ n2_ n3_ n4_; (try clear hb); (try clear hb2); (try clear hk); (try clear hi)))
        go_ret; (exact ⟨rfl, eI HB⟩)
       ·replace c36 := Bool.eq_false_iff.mpr c36
        subst c36; (rw [if_neg (show ¬ (false = true) by decide)] at H); (obtain rfl := Option.some.inj H); (exact absurd ht_.out (by decide))
      ·replace c33 := Bool.eq_false_iff.mpr c33
       subst c33; (rw [if_neg (show ¬ (false = true) by decide)] at H); (obtain rfl := Option.some.inj H); (exact absurd ht_.out (by decide))

end Go.Proofs.YtdogpphfofimeaaDoor.X
set_option linter.unusedVariables false
set_option linter.unusedSimpArgs false
namespace Go.Proofs.YtdogpphfofimeaaDoor.Open
open Go.RowKit Go.Proofs.YtdogpphfofimeaaDoorW.PrintWords

/-- What reads at type t is of kind d, and good. -/
def Opens (P : Program) (t : TypeId) {α : Type} (d : Kd α) (good : α → Prop) : Prop :=
  ∀ (H : Type) (enc : TypeId × Value → H) (w : World) (fuel : Nat) (cs : List Value) (x : DataW H × List MemPlace),
    DataW.trod enc P w 0 (fun _ => true) true fuel t cs = some x → ∃ a, d.K w a cs ∧ good a

theorem opens_int {P : Program} {t : TypeId} {k : IntKind} (ht : P.underlying t = some (.int k)) : Opens P t (Kd.int k) (fun n => (Lit.int k n).wf = true) := by
  intro H enc w fuel cs x hx
  obtain ⟨n, rfl, _, hw⟩ := DataW.trod_int ht hx
  exact ⟨n, rfl, hw⟩
theorem opens_bool {P : Program} {t : TypeId} (ht : P.underlying t = some .bool) : Opens P t Kd.bool (fun _ => True) := by
  intro H enc w fuel cs x hx
  obtain ⟨n, rfl, _⟩ := DataW.trod_bool ht hx
  exact ⟨n, rfl, trivial⟩
theorem opens_string {P : Program} {t : TypeId} (ht : P.underlying t = some .string) : Opens P t Kd.string (fun s => s.size ≤ 9223372036854775807) := by
  intro H enc w fuel cs x hx
  obtain ⟨n, rfl, _, hw⟩ := DataW.trod_string ht hx
  exact ⟨n, rfl, by simpa [maxLen] using hw⟩

theorem cells_each {w : World} {a : Addr} {n : Nat} {cs : List Value} (h : w.cells? 0 a n = some cs) : cs.length = n ∧ ∀ i u, cs[i]? = some u → w.cell? (a.add i) = some u := by
  have h1 := World.cells?_some h
  refine ⟨h1.2.1, fun i u hu => ?_⟩
  have hi : i < n := by
    have := (List.getElem?_eq_some_iff.1 hu).1
    omega
  rw [h1.2.2 i hi, hu]

theorem opens_slice {P : Program} {t e : TypeId} {α : Type} {d : Kd α} {g : α → Prop} (ht : P.underlying t = some (.slice e)) (hsz : P.cellsOf e = d.sz) (h : Opens P e d g) :
    Opens P t (Kd.slice e d) (fun xs => xs.length ≤ 9223372036854775807 ∧ ∀ x ∈ xs, g x) := by
  intro H enc w fuel cs x hx
  rcases DataW.trod_slice ht hx with ⟨rfl, _⟩ | ⟨a, len, cap, elems, rest, n, rfl, rfl, _, _, hlc, hcap, hel, hget, _, _⟩
  · exact ⟨[], ⟨none, 0, rfl, Nat.le_refl _, Kd.C_nil d w⟩, by simp, by simp⟩
  · simp only [maxLen] at hcap
    have each : ∀ i, i < len → ∃ b : α, ∃ c : List Value, c.length = d.sz ∧ d.K w b c ∧ g b ∧ ∀ j u, c[j]? = some u → w.cell? (a.add (i * d.sz + j)) = some u := by
      intro i hi
      have h1 := hget i hi
      obtain ⟨y, hy⟩ : ∃ y, elems[i]? = some y := ⟨_, List.getElem?_eq_getElem (by omega)⟩
      rw [hy] at h1
      obtain ⟨c, hc, ht'⟩ := Option.bind_eq_some_iff.1 h1
      obtain ⟨b, hK, hg⟩ := h H enc w n c y ht'
      obtain ⟨hl, hcell⟩ := cells_each hc
      refine ⟨b, c, hl.trans hsz, hK, hg, fun j u hu => ?_⟩
      have := hcell j u hu
      rw [Deep.add_add, hsz] at this
      exact this
    have mk : ∀ m, m ≤ len → ∃ xs : List α, xs.length = m ∧ (∀ x ∈ xs, g x) ∧ ∀ j p, xs[j]? = some p → ∃ c, c.length = d.sz ∧ d.K w p c ∧ ∀ i u, c[i]? = some u → w.cell? (a.add (j * d.sz + i)) = some u := by
      intro m
      induction m with
      | zero => exact fun _ => ⟨[], rfl, by simp, by simp⟩
      | succ m ih =>
        intro hm
        obtain ⟨xs, hl, hg, hx⟩ := ih (by omega)
        obtain ⟨b, c, hc1, hc2, hc3, hc4⟩ := each m (by omega)
        refine ⟨xs ++ [b], by simp [hl], ?_, ?_⟩
        · intro x hx'
          rcases List.mem_append.1 hx' with hx' | hx'
          · exact hg x hx'
          · rw [List.mem_singleton.1 hx']; exact hc3
        · intro j p hj
          by_cases hjm : j < m
          · rw [List.getElem?_append_left (by omega)] at hj
            exact hx j p hj
          · have hlt := (List.getElem?_eq_some_iff.1 hj).1
            simp only [List.length_append, List.length_cons, List.length_nil] at hlt
            obtain rfl : j = m := by omega
            rw [List.getElem?_append_right (by omega), hl, Nat.sub_self] at hj
            simp only [List.getElem?_cons_zero, Option.some.injEq] at hj
            subst hj
            exact ⟨c, hc1, hc2, hc4⟩
    obtain ⟨ys, hl, hg, hy⟩ := mk len (Nat.le_refl _)
    subst hl
    exact ⟨ys, ⟨some a, cap, rfl, hlc, rfl, by omega, fun _ => ⟨a, rfl, hy⟩⟩, by omega, hg⟩

def offs (L : List (TypeId × Nat)) (i : Nat) : Nat := ((L.take i).map (·.2)).sum
def Sect (P : Program) (L : List (TypeId × Nat)) {α : Type} (d : Kd α) (good : α → Prop) : Prop :=
  ∀ (H : Type) (enc : TypeId × Value → H) (w : World) (n : Nat) (cs : List Value), cs.length = (L.map (·.2)).sum →
    (∀ i p, L[i]? = some p → ∃ y, DataW.trod enc P w 0 (fun _ => true) true n p.1 ((cs.drop (offs L i)).take p.2) = some y) → ∃ a, d.K w a cs ∧ good a
theorem sect_one {P : Program} {t : TypeId} {s : Nat} {α : Type} {d : Kd α} {g : α → Prop} (h : Opens P t d g) : Sect P [(t, s)] d g := by
  intro H enc w n cs hl hf
  obtain ⟨y, hy⟩ := hf 0 _ rfl
  simp only [offs, List.take_zero, List.map_nil, List.sum_nil, List.drop_zero] at hy
  rw [List.take_of_length_le (by simp at hl; omega)] at hy
  exact h H enc w n cs y hy
theorem sect_cons {P : Program} {t : TypeId} {s : Nat} {L : List (TypeId × Nat)} {α β : Type} {d : Kd α} {d' : Kd β} {g : α → Prop} {g' : β → Prop} (h : Opens P t d g) (h' : Sect P L d' g') :
    Sect P ((t, s) :: L) (Kd.pair d d') (fun x => g x.1 ∧ g' x.2) := by
  intro H enc w n cs hl hf
  obtain ⟨y, hy⟩ := hf 0 _ rfl
  simp only [offs, List.take_zero, List.map_nil, List.sum_nil, List.drop_zero] at hy
  obtain ⟨a, ha, hga⟩ := h H enc w n _ y hy
  obtain ⟨b, hb, hgb⟩ := h' H enc w n (cs.drop s) (by simp only [List.map_cons, List.sum_cons] at hl; rw [List.length_drop, hl]; omega) (by
    intro i p hp
    obtain ⟨z, hz⟩ := hf (i + 1) p (by simpa using hp)
    refine ⟨z, ?_⟩
    simp only [offs, List.take_succ_cons, List.map_cons, List.sum_cons] at hz
    rw [List.drop_drop]
    exact hz)
  exact ⟨(a, b), ⟨cs.take s, cs.drop s, (List.take_append_drop s cs).symm, ha, hb⟩, hga, hgb⟩
theorem opens_struct {P : Program} {t : TypeId} {fs : Array Field} {α β : Type} {d : Kd α} {g : α → Prop} (f : β → α) (k : α → β) (hk : ∀ x, f (k x) = x) (L : List (TypeId × Nat))
    (ht : P.underlying t = some (.struct fs)) (hL : L = fs.toList.map (fun f => (f.type, P.cellsOf f.type))) (ho : fs.toList.map (·.offset) = (List.range L.length).map (offs L)) (hc : P.cellsOf t = (L.map (·.2)).sum)
    (h : Sect P L d g) : Opens P t (Kd.iso d f) (fun x => g (f x)) := by
  intro H enc w fuel cs x hx
  obtain ⟨xs, n, rfl, rfl, hl, hxl, hf⟩ := DataW.trod_struct ht hx
  obtain ⟨a, ha, hg⟩ := h H enc w n cs (hl.trans hc) (by
    intro i p hp
    have hi : i < fs.size := by
      have := (List.getElem?_eq_some_iff.1 hp).1
      rw [hL] at this
      simpa using this
    have hfi : fs[i]? = some fs[i] := Array.getElem?_eq_getElem hi
    have h1 := hf i fs[i] hfi
    obtain ⟨y, hy⟩ : ∃ y, xs[i]? = some y := ⟨_, List.getElem?_eq_getElem (by omega)⟩
    rw [hy] at h1
    refine ⟨y, ?_⟩
    have hp' : p = (fs[i].type, P.cellsOf fs[i].type) := by
      rw [hL] at hp
      simp only [List.getElem?_map, Array.getElem?_toList, hfi, Option.map_some, Option.some.injEq] at hp
      exact hp.symm
    have hoi : fs[i].offset = offs L i := by
      have h2 : (fs.toList.map (·.offset))[i]? = ((List.range L.length).map (offs L))[i]? := by rw [ho]
      have hLl : L.length = fs.size := by rw [hL]; simp
      simp only [List.getElem?_map, Array.getElem?_toList, hfi, Option.map_some, List.getElem?_range (show i < L.length by omega)] at h2
      exact Option.some.inj h2
    rw [hp', ← hoi]
    exact h1)
  refine ⟨k a, ?_, ?_⟩
  · show d.K w (f (k a)) cs
    rw [hk]; exact ha
  · show g (f (k a))
    rw [hk]; exact hg

theorem arg_slice {P : Program} {W : World} {H : Type} {enc : TypeId × Value → H} {t e : TypeId} {α : Type} {d : Kd α} {g : List α → Prop} {v : Value} {x : DataW H} {p : List MemPlace} (h : Opens P t (Kd.slice e d) g)
    (hs : ∃ a len cap, v = .slice a len cap) (hv : DataW.Trod enc P W 0 (fun _ => true) true t v x p) : ∃ A c xs, v = .slice A xs.length c ∧ xs.length ≤ c ∧ Kd.C d W A xs.length xs ∧ g xs := by
  obtain ⟨a, len, cap, rfl⟩ := hs
  obtain ⟨fuel, hf⟩ := hv
  obtain ⟨xs, ⟨A, c, he, hl, hc⟩, hg⟩ := h H enc W fuel _ _ hf
  simp [Value.cells] at he
  obtain ⟨rfl, rfl, rfl⟩ := he
  exact ⟨_, _, xs, rfl, hl, hc, hg⟩
end Go.Proofs.YtdogpphfofimeaaDoor.Open
set_option linter.unusedVariables false
namespace Go.Proofs.YtdogpphfofimeaaDoor.X
open Go.RowKit Go.Proofs.YtdogpphfofimeaaDoorW.PrintWords Go.Proofs.YtdogpphfofimeaaDoor.Open
theorem op9 : Opens Tryd.prog 9 Kd.string (fun s => s.size ≤ 9223372036854775807) := opens_string Tryd.underlying9
theorem op3 : Opens Tryd.prog 3 (Kd.int .i64) (fun n => (Lit.int .i64 n).wf = true) := opens_int Tryd.underlying3
theorem op51 : Opens Tryd.prog 51 (Kd.slice 9 Kd.string) (fun xs => (xs.length ≤ 9223372036854775807 ∧ ∀ y ∈ xs, y.size ≤ 9223372036854775807)) := opens_slice Tryd.underlying51 (by kernel_rfl) op9
theorem op4 : Opens Tryd.prog 4 Kd.bool (fun _ => True) := opens_bool Tryd.underlying4
def good68 (x : S68) : Prop := x.f0.size ≤ 9223372036854775807 ∧ (Lit.int .i64 x.f1).wf = true ∧ (Lit.int .i64 x.f2).wf = true ∧ (Lit.int .i64 x.f3).wf = true ∧ (x.f4.length ≤ 9223372036854775807 ∧ ∀ y ∈ x.f4, y.size ≤ 9223372036854775807) ∧ True ∧ x.f6.size ≤ 9223372036854775807
theorem op68 : Opens Tryd.prog 68 k68 good68 :=
  opens_struct (fun x : S68 => (x.f0, x.f1, x.f2, x.f3, x.f4, x.f5, x.f6)) (fun p => ⟨p.1, p.2.1, p.2.2.1, p.2.2.2.1, p.2.2.2.2.1, p.2.2.2.2.2.1, p.2.2.2.2.2.2⟩) (fun _ => rfl) [(9, 1), (3, 1), (3, 1), (3, 1), (51, 1), (4, 1), (9, 1)] Tryd.underlying68 (by kernel_rfl) (by decide) (by kernel_rfl) (sect_cons op9 (sect_cons op3 (sect_cons op3 (sect_cons op3 (sect_cons op51 (sect_cons op4 (sect_one op9)))))))
theorem op22 : Opens Tryd.prog 22 (Kd.slice 68 k68) (fun xs => (xs.length ≤ 9223372036854775807 ∧ ∀ y ∈ xs, good68 y)) := opens_slice Tryd.underlying22 (by kernel_rfl) op68
def good76 (x : S76) : Prop := x.f0.size ≤ 9223372036854775807 ∧ x.f1.size ≤ 9223372036854775807
theorem op76 : Opens Tryd.prog 76 k76 good76 :=
  opens_struct (fun x : S76 => (x.f0, x.f1)) (fun p => ⟨p.1, p.2⟩) (fun _ => rfl) [(9, 1), (9, 1)] Tryd.underlying76 (by kernel_rfl) (by decide) (by kernel_rfl) (sect_cons op9 (sect_one op9))
theorem op30 : Opens Tryd.prog 30 (Kd.slice 76 k76) (fun xs => (xs.length ≤ 9223372036854775807 ∧ ∀ y ∈ xs, good76 y)) := opens_slice Tryd.underlying30 (by kernel_rfl) op76
end Go.Proofs.YtdogpphfofimeaaDoor.X
namespace Go.Proofs.YtdogpphfofimeaaDoor.X
open Go.RowKit Go.Proofs.YtdogpphfofimeaaDoorW.PrintWords
def PureFnExactIsComplete : Prop := ∀ (a0 : List (S68)) (a1 : List (S76)), (a0.length ≤ 9223372036854775807 ∧ ∀ y ∈ a0, good68 y) → (a1.length ≤ 9223372036854775807 ∧ ∀ y ∈ a1, good76 y) → ∃ k, laws_FnExactIsComplete.f k a0 a1 = some true
end Go.Proofs.YtdogpphfofimeaaDoor.X
set_option linter.unusedVariables false
set_option linter.unusedSimpArgs false
namespace Go.Proofs.YtdogpphfofimeaaDoor.X
open Go.RowKit Go.Proofs.YtdogpphfofimeaaDoorW.PrintWords Go.Proofs.YtdogpphfofimeaaDoor.E
theorem l1In_eq (a l h : Int) : spec_l1In.f a l h = some (decide (l ≤ a ∧ a ≤ h)) := by
  unfold spec_l1In.f
  by_cases h1 : a ≥ l
  · rw [if_pos h1]; congr 1; simp [h1]
  · rw [if_neg h1]; congr 1; symm; simp; intro h2; omega
theorem within_eq (a l h : Int) : impl_within.f a l h = some (decide (l ≤ a ∧ a ≤ h)) := by
  unfold impl_within.f
  by_cases h1 : a ≥ l
  · rw [if_pos h1]; congr 1; simp [h1]
  · rw [if_neg h1]; congr 1; symm; simp; intro h2; omega
def nameAt (s : ByteArray) (i : Nat) : Bool := decide (97 ≤ bt s i ∧ bt s i ≤ 122) || (decide (0 < i) && decide (48 ≤ bt s i ∧ bt s i ≤ 57))
def nameB (s : ByteArray) : Bool := decide (1 ≤ (s.size : Int) ∧ (s.size : Int) ≤ 8) && (List.range s.size).all (nameAt s)
theorem isName_ev (s : ByteArray) (hs : s.size ≤ 9223372036854775807) : Ev (fun k => impl_isName.f k s) (nameB s) := by
  have h := ev_all0 (L := fun k i => impl_isName.l0 k s (s.size : Int) i) s.size (nameAt s) false (decide (1 ≤ (s.size : Int) ∧ (s.size : Int) ≤ 8)) (fun _ => Ev.step (fun k => rfl) (ev_neg (by omega) ?_)) ?h1 ?h2
  case refine_1 => simp only [within_eq]; exact ev_now rfl
  case h1 =>
    intro i hi _ hc y hy
    simp only [nameAt, Bool.or_eq_true, Bool.and_eq_true, decide_eq_true_eq] at hc
    refine Ev.step (fun k => rfl) (ev_pos (by omega) (ev_pos (by omega) (ev_pos (by omega) ?_)))
    rw [wrap_succ hi hs]
    repeat' (first | exact hy | (exfalso; omega) | (refine ev_ite (fun _ => ?_) (fun _ => ?_)))
  case h2 =>
    intro i hi _ hc
    simp only [nameAt, Bool.or_eq_false_iff, Bool.and_eq_false_iff, decide_eq_false_iff_not] at hc
    refine Ev.step (fun k => rfl) (ev_pos (by omega) (ev_pos (by omega) (ev_pos (by omega) ?_)))
    rw [wrap_succ hi hs]
    repeat' (first | exact ev_now rfl | (exfalso; omega) | (refine ev_ite (fun _ => ?_) (fun _ => ?_)))
  refine ev_cast h ?_
  unfold nameB
  cases (List.range s.size).all (nameAt s) <;> simp
theorem l7Name_ev (s : ByteArray) (hs : s.size ≤ 9223372036854775807) : Ev (fun k => spec_l7Name.f k s) (nameB s) := by
  unfold spec_l7Name.f
  simp only [l1In_eq]
  have stop : ∀ b, b = false → Ev (fun k => spec_l7Name.j0 k s true) b := fun b hb => hb ▸ Ev.step (fun k => rfl) (ev_now rfl)
  refine ev_ite (fun h1 => ?_) (fun h1 => stop _ ?_)
  case refine_2 => unfold nameB; simp only [Bool.and_eq_false_iff]; left; simpa using h1
  have h1' : 1 ≤ (s.size : Int) ∧ (s.size : Int) ≤ 8 := by simpa using h1
  have h0 : ∀ b : Bool, (97 ≤ bt s 0 ∧ bt s 0 ≤ 122 → b = (List.range s.size).all (nameAt s)) → (¬ (97 ≤ bt s 0 ∧ bt s 0 ≤ 122) → b = false) → b = nameB s := by
    intro b hy hn
    unfold nameB
    rw [decide_eq_true h1', Bool.true_and]
    by_cases c : 97 ≤ bt s 0 ∧ bt s 0 ≤ 122
    · exact hy c
    · rw [hn c]
      symm
      rw [Bool.eq_false_iff]
      intro hall
      have := all_range.1 hall 0 (by omega)
      simp only [nameAt, Nat.lt_irrefl, decide_false, Bool.false_and, Bool.or_false, decide_eq_true_eq] at this
      exact c this
  refine ev_pos (by omega) ?_
  have loop : 97 ≤ bt s 0 ∧ bt s 0 ≤ 122 → Ev (fun k => spec_l7Name.l0 k s 0) ((List.range s.size).all (nameAt s)) := by
    intro hf
    have h := ev_all0 (L := fun k i => spec_l7Name.l0 k s i) s.size (nameAt s) false true (fun _ => Ev.step (fun k => rfl) (ev_neg (by omega) (ev_now rfl))) ?h1 ?h2
    case h1 =>
      intro i hi _ hc y hy
      simp only [nameAt, Bool.or_eq_true, Bool.and_eq_true, decide_eq_true_eq] at hc
      refine Ev.step (fun k => rfl) (ev_pos (by omega) (ev_pos (by omega) ?_))
      rw [wrap_succ hi hs]
      repeat' (first | exact hy | (exfalso; omega) | (refine ev_ite (fun _ => ?_) (fun _ => ?_)))
    case h2 =>
      intro i hi _ hc
      simp only [nameAt, Bool.or_eq_false_iff, Bool.and_eq_false_iff, decide_eq_false_iff_not] at hc
      have hi0 : 0 < i := by
        rcases Nat.eq_zero_or_pos i with e | e
        · subst e; exact absurd hf hc.1
        · exact e
      refine Ev.step (fun k => rfl) (ev_pos (by omega) (ev_pos (by omega) ?_))
      rw [wrap_succ hi hs]
      repeat' (first | exact ev_now rfl | (exfalso; omega) | (refine ev_ite (fun _ => ?_) (fun _ => ?_)))
    refine ev_cast h ?_
    cases (List.range s.size).all (nameAt s) <;> rfl
  refine ev_ite (fun c => stop _ (h0 false (fun h => by exfalso; omega) (fun _ => rfl)).symm) (fun c => ?_)
  by_cases c2 : bt s 0 > 122
  · rw [decide_eq_true c2]
    exact stop _ (h0 false (fun h => by exfalso; omega) (fun _ => rfl)).symm
  · rw [decide_eq_false c2]
    exact Ev.step (fun k => rfl) (ev_cast (loop ⟨by omega, by omega⟩) (h0 _ (fun _ => rfl) (fun h => absurd (And.intro (show 97 ≤ bt s 0 by omega) (show bt s 0 ≤ 122 by omega)) h)))
def textAt (s : ByteArray) (i : Nat) : Bool := decide (32 ≤ bt s i ∧ bt s i ≤ 126)
def textB (s : ByteArray) : Bool := (List.range s.size).all (textAt s) && decide ((s.size : Int) ≤ 40)
theorem isText_ev (s : ByteArray) (hs : s.size ≤ 9223372036854775807) : Ev (fun k => impl_isText.f k s) (textB s) := by
  have h := ev_all0 (L := fun k i => impl_isText.l0 k s (s.size : Int) i) s.size (textAt s) false (decide ((s.size : Int) ≤ 40)) (fun _ => Ev.step (fun k => rfl) (ev_neg (by omega) (ev_now rfl))) ?h1 ?h2
  case h1 =>
    intro i hi _ hc y hy
    simp only [textAt, decide_eq_true_eq] at hc
    refine Ev.step (fun k => rfl) (ev_pos (by omega) (ev_pos (by omega) (ev_pos (by omega) ?_)))
    rw [wrap_succ hi hs]
    exact ev_neg (by omega) (ev_neg (by omega) hy)
  case h2 =>
    intro i hi _ hc
    simp only [textAt, decide_eq_false_iff_not] at hc
    refine Ev.step (fun k => rfl) (ev_pos (by omega) (ev_pos (by omega) (ev_pos (by omega) ?_)))
    refine ev_ite (fun _ => ev_now rfl) (fun _ => ev_ite (fun _ => ev_now rfl) (fun _ => ?_))
    exfalso; omega
  refine ev_cast h ?_
  unfold textB
  cases (List.range s.size).all (textAt s) <;> simp
theorem l21Text_ev (s : ByteArray) (hs : s.size ≤ 9223372036854775807) : Ev (fun k => spec_l21Text.f k s) (textB s) := by
  -- within the first forty bytes as the program; a longer one is refused at the forty-second step or before
  have h := ev_all0 (L := fun k i => spec_l21Text.l0 k s i) (min s.size 41) (textAt s) false (decide ((s.size : Int) ≤ 40)) ?h0 ?h1 ?h2
  case h0 =>
    intro _
    by_cases c : s.size ≤ 40
    · rw [Nat.min_eq_left (by omega)]
      exact Ev.step (fun k => rfl) (ev_neg (by omega) (Ev.step (fun k => rfl) (ev_now rfl)))
    · rw [Nat.min_eq_right (by omega)]
      refine Ev.step (fun k => rfl) ?_
      show Ev (fun k => if ((41 : Nat) : Int) < (s.size : Int) then spec_l21Text.j1 k s ((41 : Nat) : Int) (decide (((41 : Nat) : Int) ≤ 40)) else spec_l21Text.j1 k s ((41 : Nat) : Int) false) _
      rw [decide_eq_false (show ¬ (((41 : Nat) : Int) ≤ 40) by omega)]
      exact ev_ite (fun _ => Ev.step (fun k => rfl) (ev_now rfl)) (fun _ => Ev.step (fun k => rfl) (ev_now rfl))
  case h1 =>
    intro i hi _ hc y hy
    simp only [textAt, decide_eq_true_eq] at hc
    have hi' : i < s.size := by omega
    refine Ev.step (fun k => rfl) (ev_pos (by omega) ?_)
    rw [decide_eq_true (show (i : Int) ≤ 40 by omega)]
    refine Ev.step (fun k => rfl) ?_
    show Ev (fun k => if 0 ≤ (i : Int) then (if (i : Int) < (s.size : Int) then (if (bt s i) < 32 then (some false) else (if (bt s i) > 126 then (some false) else (spec_l21Text.l0 k s (wrap64 ((i : Int) + 1))))) else none) else none) y
    rw [wrap_succ hi' hs]
    exact ev_pos (by omega) (ev_pos (by omega) (ev_neg (by omega) (ev_neg (by omega) hy)))
  case h2 =>
    intro i hi _ hc
    simp only [textAt, decide_eq_false_iff_not] at hc
    have hi' : i < s.size := by omega
    refine Ev.step (fun k => rfl) (ev_pos (by omega) ?_)
    rw [decide_eq_true (show (i : Int) ≤ 40 by omega)]
    refine Ev.step (fun k => rfl) ?_
    show Ev (fun k => if 0 ≤ (i : Int) then (if (i : Int) < (s.size : Int) then (if (bt s i) < 32 then (some false) else (if (bt s i) > 126 then (some false) else (spec_l21Text.l0 k s (wrap64 ((i : Int) + 1))))) else none) else none) _
    refine ev_pos (by omega) (ev_pos (by omega) (ev_ite (fun _ => ev_now rfl) (fun _ => ev_ite (fun _ => ev_now rfl) (fun _ => ?_))))
    exfalso; omega
  refine ev_cast h ?_
  unfold textB
  by_cases c : s.size ≤ 40
  · rw [Nat.min_eq_left (by omega)]
    cases (List.range s.size).all (textAt s) <;> simp
  · rw [decide_eq_false (show ¬ ((s.size : Int) ≤ 40) by omega)]
    simp
end Go.Proofs.YtdogpphfofimeaaDoor.X
namespace Go.Proofs.YtdogpphfofimeaaDoor.X
open Go.RowKit Go.Proofs.YtdogpphfofimeaaDoorW.PrintWords Go.Proofs.YtdogpphfofimeaaDoorW.PrintLast Go.Proofs.YtdogpphfofimeaaDoorW.PrintMore
attribute [local go_sem] max2_int min2_int max_two min_two max_three min_three max_four min_four   -- for this text's walks alone
set_option linter.unusedVariables false
set_option linter.unusedSimpArgs false
attribute [-simp] ByteArray.size_append ByteArray.size_extract
attribute [-go_sem] ByteArray.size_append'

/-! ### spec_IsValidForm: function 38 -/
def spec_IsValidForm.f (k : Nat) (l0 : List (S69)) : Option (Bool) := (spec_l23Good.f k l0).bind fun t101 => (some t101)
set_option maxHeartbeats 8000000 in
set_option maxRecDepth 100000 in
theorem spec_IsValidForm.calls (k : Nat) (A0 : Option Addr) (c0 : Nat) (l0 : List (S69)) (r : Bool) (w : World) (hr0 : Kd.C k69 w A0 l0.length l0) (hc0 : l0.length ≤ c0) (h : spec_IsValidForm.f k l0 = some r) :
  Calls Tryd.prog 38 #[.slice A0 l0.length c0] w fun e w' => e = .returned (.bool r) ∧ Below w.heap.size w w' := by
 (have HR0 := Aside0.mk hr0); (have HC0 := Aside0.mk hc0); clear hr0 hc0; (have HB := Aside0.mk (Below.refl w.heap.size w)); (unfold spec_IsValidForm.f at h); (have H := h); clear h; (replace H := obS H); (obtain ⟨t101, A2, H⟩ := H); (obtain rfl := Option.some.inj H); (go_enter Tryd.func38, Tryd.ntmps38); (go_wp2_with (first | ((with_reducible refine gate_callee (f := 44) rfl ?_); refine gL (some 4) Tryd.func44 #[.slice A0 l0.length c0] ?_; (with_reducible refine (spec_l23Good.calls k _ _ l0 t101 _ ?side1 ?side2 A2.out).mono ?_); (case side1 => exact cI HR0.out); (case side2 => exact HC0.out); rintro e w3 ⟨rfl, hb⟩; refine ⟨_, rfl, ?_⟩; have n0_ := Aside0.mk (sI hb HB); clear HB; have HB := n0_; clear n0_; (try clear hb); (try clear hb2); (try clear hk); (try clear hi)))); go_ret; (exact ⟨rfl, eI HB⟩)

end Go.Proofs.YtdogpphfofimeaaDoor.X
set_option linter.unusedVariables false
set_option linter.unusedSimpArgs false
namespace Go.Proofs.YtdogpphfofimeaaDoor.X
open Go.RowKit Go.Proofs.YtdogpphfofimeaaDoorW.PrintWords Go.Proofs.YtdogpphfofimeaaDoor.E
abbrev Field := S69
abbrev zF : Field := z69
/-- What a reading tells of a field's sizes. -/
def fine (f : Field) : Prop := f.f0.size ≤ 9223372036854775807 ∧ f.f4.length ≤ 9223372036854775807 ∧ (∀ s ∈ f.f4, s.size ≤ 9223372036854775807) ∧ f.f6.size ≤ 9223372036854775807
abbrev fidx (form : List Field) (n : ByteArray) : Int := idxG (fun x : Field => x.f0.toList == n.toList) 0 form
theorem l23Find_ev (form : List Field) (n : ByteArray) (hl : form.length ≤ 9223372036854775807) : Ev (fun k => spec_l23Find.f k form n) (fidx form n) := by
  have h := ev_walk (L := fun k i => spec_l23Find.l0 k form n i) (G := fun i r => idxG (fun x : Field => x.f0.toList == n.toList) i r) form (Ev.step (fun k => rfl) (ev_neg (by omega) (ev_now rfl))) ?step
  case step =>
    intro i x r hi hd hx hk
    refine Ev.step (fun k => rfl) (ev_pos (by omega) (ev_pos (by omega) ?_))
    simp only [rd_T69, Int.toNat_natCast, hx]
    by_cases c : x.f0.toList = n.toList
    · exact ev_pos c (ev_now (by simp [idxG, c]))
    · refine ev_neg c ?_
      rw [wrap_succ hi hl]
      exact ev_cast hk (by simp [idxG, c])
  exact h
theorem fieldOf_eq (form : List Field) (n : ByteArray) : impl_fieldOf.f form n = some (fidx form n) := rfl
/-- A list's choices: names, and none twice. -/
def choiceAt (l : List ByteArray) (i : Nat) : Bool := nameB (l.getD i ByteArray.empty) && (List.range i).all (fun k => !((l.getD k ByteArray.empty).toList == (l.getD i ByteArray.empty).toList))
def choices (l : List ByteArray) : Bool := (List.range l.length).all (choiceAt l)
theorem l23Names_ev (l : List ByteArray) (hl : l.length ≤ 9223372036854775807) (hs : ∀ s ∈ l, s.size ≤ 9223372036854775807) : Ev (fun k => spec_l23Names.f k l) (choices l) := by
  have inner : ∀ i, i < l.length → ∀ y, ((List.range i).all (fun k => !((l.getD k ByteArray.empty).toList == (l.getD i ByteArray.empty).toList)) = true → Ev (fun k => spec_l23Names.l0 k l ((i + 1 : Nat) : Int)) y) →
      Ev (fun k => spec_l23Names.l1 k l i 0) (if (List.range i).all (fun k => !((l.getD k ByteArray.empty).toList == (l.getD i ByteArray.empty).toList)) = true then y else false) := by
    intro i hi y hy
    refine ev_all0 (L := fun k j => spec_l23Names.l1 k l i j) i _ false y ?_ ?_ ?_
    · intro hC
      refine Ev.step (fun k => rfl) (ev_neg (by omega) ?_)
      rw [wrap_succ hi hl]
      exact hy (all_range.2 hC)
    · intro m hm _ hc z hz
      refine Ev.step (fun k => rfl) (ev_pos (by omega) (ev_pos (by omega) (ev_pos (by omega) (ev_pos (by omega) (ev_pos (by omega) (ev_neg ?_ ?_))))))
      · simp only [rdOf, Int.toNat_natCast]
        simpa using hc
      · rw [wrap_succ hm (by omega)]; exact hz
    · intro m hm _ hc
      refine Ev.step (fun k => rfl) (ev_pos (by omega) (ev_pos (by omega) (ev_pos (by omega) (ev_pos (by omega) (ev_pos (by omega) (ev_pos ?_ (ev_now rfl)))))))
      simp only [rdOf, Int.toNat_natCast]
      simpa using hc
  have h := ev_all0 (L := fun k i => spec_l23Names.l0 k l i) l.length (choiceAt l) false true (fun _ => Ev.step (fun k => rfl) (ev_neg (by omega) (ev_now rfl))) ?h1 ?h2
  case h1 =>
    intro i hi _ hc y hy
    simp only [choiceAt, Bool.and_eq_true] at hc
    refine Ev.step (fun k => rfl) (ev_pos (by omega) (ev_pos (by omega) ?_))
    simp only [rdOf, Int.toNat_natCast]
    refine Ev.bind (l7Name_ev _ (by rw [getD_in hi]; exact hs _ (List.getElem_mem hi))) (ev_pos hc.1 ?_)
    have := inner i hi y (fun _ => hy)
    rw [if_pos hc.2] at this
    exact this
  case h2 =>
    intro i hi _ hc
    refine Ev.step (fun k => rfl) (ev_pos (by omega) (ev_pos (by omega) ?_))
    simp only [rdOf, Int.toNat_natCast]
    refine Ev.bind (l7Name_ev _ (by rw [getD_in hi]; exact hs _ (List.getElem_mem hi))) (ev_ite (fun h1 => ?_) (fun _ => ev_now rfl))
    have hn : ¬ (List.range i).all (fun k => !((l.getD k ByteArray.empty).toList == (l.getD i ByteArray.empty).toList)) = true := by
      intro h2
      simp only [choiceAt, h1, h2] at hc
      cases hc
    have := inner i hi false (fun h => absurd h hn)
    rw [if_neg hn] at this
    exact this
  refine ev_cast h ?_
  unfold choices
  cases (List.range l.length).all (choiceAt l) <;> rfl
theorem slicesIndexStr_ev (l : List ByteArray) (n : ByteArray) (hl : l.length ≤ 9223372036854775807) : Ev (fun k => slices_Index_string_string.f k l n) (idxG (fun x : ByteArray => x.toList == n.toList) 0 l) := by
  have h := ev_walk (L := fun k i => slices_Index_string_string.l0 k l n (l.length : Int) i) (G := fun i r => idxG (fun x : ByteArray => x.toList == n.toList) i r) l (Ev.step (fun k => rfl) (ev_neg (by omega) (ev_now rfl))) ?step
  case step =>
    intro i x r hi hd hx hk
    refine Ev.step (fun k => rfl) (ev_pos (by omega) (ev_pos (by omega) (ev_pos (by omega) ?_)))
    simp only [rdOf, Int.toNat_natCast, hx]
    by_cases c : n.toList = x.toList
    · exact ev_pos c (ev_now (by simp [idxG, c]))
    · refine ev_neg c ?_
      rw [wrap_succ hi hl]
      have c' : ¬ x.toList = n.toList := fun h => c h.symm
      exact ev_cast hk (by simp [idxG, c'])
  exact h
theorem slicesContainsStr_ev (l : List ByteArray) (n : ByteArray) (hl : l.length ≤ 9223372036854775807) : Ev (fun k => slices_Contains_string_string.f k l n) (l.any (fun x => x.toList == n.toList)) := by
  unfold slices_Contains_string_string.f
  refine Ev.bind (slicesIndexStr_ev l n hl) (ev_now ?_)
  exact idxG_nonneg (fun x : ByteArray => x.toList == n.toList) l 0
theorem any_take (l : List ByteArray) (i : Nat) (hi : i < l.length) (n : ByteArray) : (l.take i).any (fun x => x.toList == n.toList) = !(List.range i).all (fun k => !((l.getD k ByteArray.empty).toList == n.toList)) := by
  rw [Bool.eq_iff_iff, Bool.not_eq_true', List.any_eq_true, Bool.eq_false_iff, ne_eq, all_range]
  constructor
  · rintro ⟨x, hx, hp⟩ h
    obtain ⟨q, hq, rfl⟩ := List.getElem_of_mem hx
    have hq' : q < i := by simp at hq; omega
    have := h q hq'
    rw [getD_in (by omega)] at this
    rw [List.getElem_take] at hp
    rw [hp] at this; cases this
  · intro h
    refine Classical.byContradiction (fun hc => h (fun k hk => ?_))
    rw [getD_in (by omega)]
    cases hq : (l[k].toList == n.toList) with
    | false => rfl
    | true =>
      refine absurd ⟨l[k], ?_, hq⟩ hc
      rw [List.mem_take_iff_getElem]
      exact ⟨k, by omega, rfl⟩
/-- What is asked of the kind. -/
def kindOk (f : Field) : Bool :=
  if f.f1 = 1 then decide (-999999 ≤ f.f2 ∧ f.f2 ≤ f.f3 ∧ f.f3 ≤ 999999) && (f.f4.length == 0)
  else if f.f1 = 2 then decide (0 ≤ f.f2 ∧ f.f2 ≤ f.f3 ∧ f.f3 ≤ 40) && (f.f4.length == 0)
  else if f.f1 = 3 then decide (f.f2 = 0 ∧ f.f3 = 0) && decide (1 ≤ (f.f4.length : Int) ∧ (f.f4.length : Int) ≤ 6) && choices f.f4
  else if f.f1 = 4 then decide (f.f2 = 0 ∧ f.f3 = 0) && (f.f4.length == 0) else false
/-- What is asked of the condition, the fields ahead being known. -/
def ifOk (form : List Field) (i : Nat) (n : ByteArray) : Bool := (n.toList == []) || (decide (0 ≤ fidx form n ∧ fidx form n < (i : Int)) && ((form.getD (fidx form n).toNat zF).f1 == 4))
def fieldB (form : List Field) (i : Nat) : Bool :=
  nameB (form.getD i zF).f0 && decide (fidx form (form.getD i zF).f0 = (i : Int)) && decide (1 ≤ (form.getD i zF).f1 ∧ (form.getD i zF).f1 ≤ 4) && ifOk form i (form.getD i zF).f6 && kindOk (form.getD i zF)
theorem specField_ev (form : List Field) (i : Nat) (hi : i < form.length) (hl : form.length ≤ 9223372036854775807) (hf : fine (form.getD i zF)) : Ev (fun k => spec_l23Field.f k form i) (fieldB form i) := by
  unfold spec_l23Field.f
  refine ev_pos (by omega) (ev_pos (by omega) ?_)
  simp only [rd_T69, Int.toNat_natCast, l1In_eq]
  generalize hF : form.getD i z69 = F at *
  have hFB : fieldB form i = (nameB F.f0 && decide (fidx form F.f0 = (i : Int)) && decide (1 ≤ F.f1 ∧ F.f1 ≤ 4) && ifOk form i F.f6 && kindOk F) := by unfold fieldB; rw [show form.getD i zF = F from hF]
  rw [hFB]
  obtain ⟨g0, g4, g4s, g6⟩ := id hf
  have stop : ∀ b, b = false → Ev (fun k => spec_l23Field.j0 k form i true F.f0 F.f1 F.f2 F.f3 F.f4 F.f5 F.f6) b := fun b hb => hb ▸ Ev.step (fun k => rfl) (ev_now rfl)
  refine Ev.bind (l7Name_ev F.f0 g0) (ev_ite (fun h1 => ?_) (fun h1 => stop _ (by simp [h1])))
  refine Ev.bind (l23Find_ev form F.f0 hl) (ev_ite (fun h2 => ?_) (fun h2 => stop _ (by simp [h2])))
  by_cases h3 : 1 ≤ F.f1 ∧ F.f1 ≤ 4
  case neg =>
    show Ev (fun k => spec_l23Field.j0 k form i (!decide (1 ≤ F.f1 ∧ F.f1 ≤ 4)) F.f0 F.f1 F.f2 F.f3 F.f4 F.f5 F.f6) _
    rw [decide_eq_false h3]
    exact stop _ (by simp)
  show Ev (fun k => spec_l23Field.j0 k form i (!decide (1 ≤ F.f1 ∧ F.f1 ≤ 4)) F.f0 F.f1 F.f2 F.f3 F.f4 F.f5 F.f6) _
  rw [decide_eq_true h3]
  have tail : Ev (fun k => spec_l23Field.j1 k F.f0 F.f1 F.f2 F.f3 F.f4 F.f5 F.f6) (kindOk F) := by
    refine Ev.step (fun k => rfl) ?_
    unfold kindOk
    simp only [spec_l23Field.j1, l1In_eq]
    have e0 : ((F.f4.length : Int) == 0) = (F.f4.length == 0) := by
      rw [Bool.eq_iff_iff, beq_iff_eq, beq_iff_eq]; omega
    refine ev_ite (fun k1 => ?_) (fun k1 => ev_ite (fun k2 => ?_) (fun k2 => ev_ite (fun k3 => ?_) (fun k3 => ?_)))
    · rw [if_pos k1]
      refine ev_ite (fun h => ev_ite (fun h' => ev_now ?_) (fun h' => ev_now ?_)) (fun h => ev_now ?_)
      · rw [decide_eq_true_eq] at h; rw [decide_eq_true (show -999999 ≤ F.f2 ∧ F.f2 ≤ F.f3 ∧ F.f3 ≤ 999999 by omega), Bool.true_and, e0]
      · rw [decide_eq_false (show ¬ (-999999 ≤ F.f2 ∧ F.f2 ≤ F.f3 ∧ F.f3 ≤ 999999) by omega), Bool.false_and]
      · rw [decide_eq_true_eq] at h; rw [decide_eq_false (show ¬ (-999999 ≤ F.f2 ∧ F.f2 ≤ F.f3 ∧ F.f3 ≤ 999999) by omega), Bool.false_and]
    · rw [if_neg k1, if_pos k2]
      refine ev_ite (fun h => ev_ite (fun h' => ev_now ?_) (fun h' => ev_now ?_)) (fun h => ev_now ?_)
      · rw [decide_eq_true_eq] at h; rw [decide_eq_true (show 0 ≤ F.f2 ∧ F.f2 ≤ F.f3 ∧ F.f3 ≤ 40 by omega), Bool.true_and, e0]
      · rw [decide_eq_false (show ¬ (0 ≤ F.f2 ∧ F.f2 ≤ F.f3 ∧ F.f3 ≤ 40) by omega), Bool.false_and]
      · rw [decide_eq_true_eq] at h; rw [decide_eq_false (show ¬ (0 ≤ F.f2 ∧ F.f2 ≤ F.f3 ∧ F.f3 ≤ 40) by omega), Bool.false_and]
    · rw [if_neg k1, if_neg k2, if_pos k3]
      refine ev_ite (fun h => ev_ite (fun h' => ev_ite (fun h'' => ?_) (fun h'' => ev_now ?_)) (fun h' => ev_now ?_)) (fun h => ev_now ?_)
      · rw [decide_eq_true (show F.f2 = 0 ∧ F.f3 = 0 from ⟨h, h'⟩), h'', Bool.true_and, Bool.true_and]
        exact Ev.bind (l23Names_ev F.f4 g4 g4s) (ev_now rfl)
      · rw [decide_eq_true (show F.f2 = 0 ∧ F.f3 = 0 from ⟨h, h'⟩), Bool.eq_false_iff.2 h'']; rfl
      · rw [decide_eq_false (show ¬ (F.f2 = 0 ∧ F.f3 = 0) by omega)]; rfl
      · rw [decide_eq_false (show ¬ (F.f2 = 0 ∧ F.f3 = 0) by omega)]; rfl
    · rw [if_neg k1, if_neg k2, if_neg k3, if_pos (show F.f1 = 4 by omega)]
      refine ev_ite (fun h => ev_ite (fun h' => ev_now ?_) (fun h' => ev_now ?_)) (fun h => ev_now ?_)
      · rw [decide_eq_true (show F.f2 = 0 ∧ F.f3 = 0 from ⟨h, h'⟩), Bool.true_and, e0]
      · rw [decide_eq_false (show ¬ (F.f2 = 0 ∧ F.f3 = 0) by omega)]; rfl
      · rw [decide_eq_false (show ¬ (F.f2 = 0 ∧ F.f3 = 0) by omega)]; rfl
  rw [h1, decide_eq_true h2, Bool.true_and, Bool.true_and, Bool.true_and]
  refine Ev.step (fun k => rfl) ?_
  show Ev (fun k => if F.f6.toList = ([] : List UInt8) then _ else _) _
  unfold ifOk
  refine ev_ite (fun h4 => ev_cast tail (by simp [h4])) (fun h4 => ?_)
  have h4' : (F.f6.toList == []) = false := by simpa using h4
  rw [h4', Bool.false_or]
  refine Ev.bind (l23Find_ev form F.f6 hl) (ev_ite (fun h5 => ev_now ?_) (fun h5 => ev_ite (fun h6 => ev_now ?_) (fun h6 => ?_)))
  · rw [decide_eq_false (by omega), Bool.false_and, Bool.false_and]
  · rw [decide_eq_false (by omega), Bool.false_and, Bool.false_and]
  · refine ev_pos (by omega) (ev_pos (by omega) ?_)
    simp only [rd_T69]
    rw [decide_eq_true (show 0 ≤ fidx form F.f6 ∧ fidx form F.f6 < (i : Int) by omega), Bool.true_and]
    refine ev_ite (fun h7 => ev_cast tail ?_) (fun h7 => ev_now ?_)
    · show kindOk F = (((form.getD (fidx form F.f6).toNat z69).f1 == 4) && kindOk F)
      rw [h7]; rfl
    · show false = (((form.getD (fidx form F.f6).toNat z69).f1 == 4) && kindOk F)
      rw [show ((form.getD (fidx form F.f6).toNat z69).f1 == 4) = false from by simpa using h7]; rfl
def formB (form : List Field) : Bool := decide ((form.length : Int) ≤ 10) && (List.range form.length).all (fieldB form)
theorem specForm_ev (form : List Field) (hl : form.length ≤ 9223372036854775807) (hf : ∀ f ∈ form, fine f) : Ev (fun k => spec_l23Good.f k form) (formB form) := by
  unfold spec_l23Good.f
  refine ev_ite (fun h => ev_now ?_) (fun h => ?_)
  · unfold formB; rw [decide_eq_false (by omega), Bool.false_and]
  unfold formB
  rw [decide_eq_true (by omega), Bool.true_and]
  have h := ev_all0 (L := fun k i => spec_l23Good.l0 k form i) form.length (fieldB form) false true (fun _ => Ev.step (fun k => rfl) (ev_neg (by omega) (ev_now rfl))) ?h1 ?h2
  case h1 =>
    intro i hi _ hc y hy
    refine Ev.step (fun k => rfl) (ev_pos (by omega) (Ev.bind (specField_ev form i hi hl (hf _ (by rw [getD_in hi]; exact List.getElem_mem hi))) (ev_pos hc ?_)))
    rw [wrap_succ hi hl]; exact hy
  case h2 =>
    intro i hi _ hc
    exact Ev.step (fun k => rfl) (ev_pos (by omega) (Ev.bind (specField_ev form i hi hl (hf _ (by rw [getD_in hi]; exact List.getElem_mem hi))) (ev_neg (by rw [hc]; simp) (ev_now rfl))))
  refine ev_cast h ?_
  cases (List.range form.length).all (fieldB form) <;> rfl
end Go.Proofs.YtdogpphfofimeaaDoor.X
set_option linter.unusedVariables false
set_option linter.unusedSimpArgs false
namespace Go.Proofs.YtdogpphfofimeaaDoor.X
open Go.RowKit Go.Proofs.YtdogpphfofimeaaDoorW.PrintWords Go.Proofs.YtdogpphfofimeaaDoor.E
theorem choiceLoop_ev (F : Field) (hF : fine F) :
    Ev (fun k => impl_isField.l0 k F.f4 (F.f4.length : Int) 0 F.f0 F.f1 F.f2 F.f3 F.f4 F.f5 F.f6) (decide (F.f2 = 0 ∧ F.f3 = 0) && decide (1 ≤ (F.f4.length : Int) ∧ (F.f4.length : Int) ≤ 6) && choices F.f4) := by
  obtain ⟨g0, g4, g4s, g6⟩ := hF
  have h := ev_all0 (L := fun k i => impl_isField.l0 k F.f4 (F.f4.length : Int) i F.f0 F.f1 F.f2 F.f3 F.f4 F.f5 F.f6) F.f4.length (choiceAt F.f4) false
    (decide (F.f2 = 0 ∧ F.f3 = 0) && decide (1 ≤ (F.f4.length : Int) ∧ (F.f4.length : Int) ≤ 6)) (fun _ => Ev.step (fun k => rfl) (ev_neg (by omega) ?h0)) ?h1 ?h2
  case h0 =>
    simp only [within_eq]
    refine ev_ite (fun h => ev_ite (fun h' => ev_now ?_) (fun h' => ev_now ?_)) (fun h => ev_now ?_)
    · rw [h, Bool.and_true]
      rw [Bool.eq_iff_iff, beq_iff_eq, decide_eq_true_eq]
      exact ⟨fun e => ⟨h', e⟩, fun e => e.2⟩
    · rw [decide_eq_false (show ¬ (F.f2 = 0 ∧ F.f3 = 0) by omega), Bool.false_and]
    · rw [Bool.eq_false_iff.2 h, Bool.and_false]
  case h1 =>
    intro i hi _ hc y hy
    simp only [choiceAt, Bool.and_eq_true] at hc
    refine Ev.step (fun k => rfl) (ev_pos (by omega) (ev_pos (by omega) (ev_pos (by omega) ?_)))
    simp only [rdOf, Int.toNat_natCast]
    refine Ev.bind (isName_ev _ (by rw [getD_in hi]; exact g4s _ (List.getElem_mem hi))) (ev_pos hc.1 (ev_pos (by omega) ?_))
    refine Ev.bind (slicesContainsStr_ev _ _ (by simp; omega)) (ev_neg ?_ ?_)
    · rw [any_take _ _ hi, hc.2]; simp
    · rw [wrap_succ hi g4]; exact hy
  case h2 =>
    intro i hi _ hc
    refine Ev.step (fun k => rfl) (ev_pos (by omega) (ev_pos (by omega) (ev_pos (by omega) ?_)))
    simp only [rdOf, Int.toNat_natCast]
    refine Ev.bind (isName_ev _ (by rw [getD_in hi]; exact g4s _ (List.getElem_mem hi))) (ev_ite (fun h1 => ev_pos (by omega) ?_) (fun _ => ev_now rfl))
    refine Ev.bind (slicesContainsStr_ev _ _ (by simp; omega)) (ev_pos ?_ (ev_now rfl))
    rw [any_take _ _ hi]
    unfold choiceAt at hc
    rw [h1, Bool.true_and] at hc
    rw [hc]; rfl
  refine ev_cast h ?_
  unfold choices
  cases (List.range F.f4.length).all (choiceAt F.f4) <;> simp
theorem kindSwitch_ev (F : Field) (hF : fine F) : Ev (fun k => impl_isField.j1 k false F.f0 F.f1 F.f2 F.f3 F.f4 F.f5 F.f6) (decide (1 ≤ F.f1 ∧ F.f1 ≤ 4) && kindOk F) := by
  have e0 : decide ((F.f4.length : Int) > 0) = !(F.f4.length == 0) := by
    cases h : (F.f4.length == 0)
    · have : ¬ F.f4.length = 0 := by simpa using h
      rw [decide_eq_true (by omega)]; rfl
    · have : F.f4.length = 0 := by simpa using h
      rw [decide_eq_false (by omega)]; rfl
  have bad : Ev (fun k => impl_isField.j2 k true F.f0 F.f1 F.f2 F.f3 F.f4 F.f5 F.f6) false := Ev.step (fun k => rfl) (ev_now rfl)
  refine Ev.step (fun k => rfl) ?_
  show Ev (fun k => if F.f1 = 3 then impl_isField.j2 k false F.f0 F.f1 F.f2 F.f3 F.f4 F.f5 F.f6 else impl_isField.j2 k (decide ((F.f4.length : Int) > 0)) F.f0 F.f1 F.f2 F.f3 F.f4 F.f5 F.f6) _
  have sw : F.f1 = 3 ∨ (F.f4.length == 0) = true → Ev (fun k => impl_isField.j2 k false F.f0 F.f1 F.f2 F.f3 F.f4 F.f5 F.f6) (decide (1 ≤ F.f1 ∧ F.f1 ≤ 4) && kindOk F) := by
    intro hz
    refine Ev.step (fun k => rfl) ?_
    show Ev (fun k => if F.f1 = 1 then _ else _) _
    unfold kindOk
    refine ev_ite (fun k1 => ?_) (fun k1 => ev_ite (fun k2 => ?_) (fun k2 => ev_ite (fun k3 => ?_) (fun k3 => ev_ite (fun k4 => ?_) (fun k4 => ev_now ?_))))
    · rw [if_pos k1, decide_eq_true (show 1 ≤ F.f1 ∧ F.f1 ≤ 4 by omega), Bool.true_and, show (F.f4.length == 0) = true from hz.resolve_left (by omega), Bool.and_true]
      refine ev_ite (fun h => ev_ite (fun h' => ev_now ?_) (fun h' => ev_now ?_)) (fun h => ev_now ?_)
      · rw [Bool.eq_iff_iff, decide_eq_true_eq, decide_eq_true_eq]; omega
      · rw [decide_eq_false (by omega)]
      · rw [decide_eq_false (by omega)]
    · rw [if_neg k1, if_pos k2, decide_eq_true (show 1 ≤ F.f1 ∧ F.f1 ≤ 4 by omega), Bool.true_and, show (F.f4.length == 0) = true from hz.resolve_left (by omega), Bool.and_true]
      refine ev_ite (fun h => ev_ite (fun h' => ev_now ?_) (fun h' => ev_now ?_)) (fun h => ev_now ?_)
      · rw [Bool.eq_iff_iff, decide_eq_true_eq, decide_eq_true_eq]; omega
      · rw [decide_eq_false (by omega)]
      · rw [decide_eq_false (by omega)]
    · rw [if_neg k1, if_neg k2, if_pos k3, decide_eq_true (show 1 ≤ F.f1 ∧ F.f1 ≤ 4 by omega), Bool.true_and]
      exact choiceLoop_ev F hF
    · rw [if_neg k1, if_neg k2, if_neg k3, if_pos k4, decide_eq_true (show 1 ≤ F.f1 ∧ F.f1 ≤ 4 by omega), Bool.true_and, show (F.f4.length == 0) = true from hz.resolve_left (by omega), Bool.and_true]
      refine ev_ite (fun h => ev_now ?_) (fun h => ev_now ?_)
      · rw [Bool.eq_iff_iff, beq_iff_eq, decide_eq_true_eq]; exact ⟨fun e => ⟨h, e⟩, fun e => e.2⟩
      · rw [decide_eq_false (by omega)]
    · rw [decide_eq_false (show ¬ (1 ≤ F.f1 ∧ F.f1 ≤ 4) by omega), Bool.false_and]
  refine ev_ite (fun h3 => sw (.inl h3)) (fun h3 => ?_)
  rw [e0]
  cases hz : (F.f4.length == 0) with
  | true => exact sw (.inr hz)
  | false =>
    refine ev_cast bad ?_
    unfold kindOk
    rw [hz, if_neg h3]
    simp
theorem implField_ev (form : List Field) (i : Nat) (hi : i < form.length) (hl : form.length ≤ 9223372036854775807) (hf : fine (form.getD i zF)) :
    Ev (fun k => impl_isField.f k (form.take i) (form.getD i zF).f0 (form.getD i zF).f1 (form.getD i zF).f2 (form.getD i zF).f3 (form.getD i zF).f4 (form.getD i zF).f5 (form.getD i zF).f6) (fieldB form i) := by
  have hself : form[i]? = some (form.getD i zF) := by rw [getD_in hi, List.getElem?_eq_getElem hi]
  have hfirst := idxG_first (p := fun x : Field => x.f0.toList == (form.getD i zF).f0.toList) hself (by simp)
  have hFB : fieldB form i = (nameB (form.getD i zF).f0 && decide (fidx form (form.getD i zF).f0 = (i : Int)) && decide (1 ≤ (form.getD i zF).f1 ∧ (form.getD i zF).f1 ≤ 4) && ifOk form i (form.getD i zF).f6 && kindOk (form.getD i zF)) := rfl
  rw [hFB]
  clear hFB hself
  generalize form.getD i zF = F at *
  obtain ⟨g0, g4, g4s, g6⟩ := id hf
  have stop : ∀ b, b = false → Ev (fun k => impl_isField.j0 k (form.take i) true F.f0 F.f1 F.f2 F.f3 F.f4 F.f5 F.f6) b := fun b hb => hb ▸ Ev.step (fun k => rfl) (ev_now rfl)
  unfold impl_isField.f
  simp only [fieldOf_eq]
  refine Ev.bind (isName_ev F.f0 g0) (ev_ite (fun h1 => ?_) (fun h1 => stop _ (by simp [h1])))
  show Ev (fun k => impl_isField.j0 k (form.take i) (decide (fidx (form.take i) F.f0 ≥ 0)) F.f0 F.f1 F.f2 F.f3 F.f4 F.f5 F.f6) _
  by_cases h2 : fidx form F.f0 = (i : Int)
  case neg =>
    have h2' : ¬ fidx (form.take i) F.f0 < 0 := fun h => h2 (hfirst.2 h)
    rw [decide_eq_true (show fidx (form.take i) F.f0 ≥ 0 by omega)]
    exact stop _ (by simp [h2])
  have h2' := hfirst.1 h2
  rw [decide_eq_false (show ¬ fidx (form.take i) F.f0 ≥ 0 from by have : fidx (form.take i) F.f0 < 0 := h2'; omega)]
  rw [h1, decide_eq_true h2, Bool.true_and, Bool.true_and]
  have bad : ∀ b, b = false → Ev (fun k => impl_isField.j1 k true F.f0 F.f1 F.f2 F.f3 F.f4 F.f5 F.f6) b := fun b hb => hb ▸ Ev.step (fun k => rfl) (ev_now rfl)
  have good := kindSwitch_ev F hf
  refine Ev.step (fun k => rfl) ?_
  simp only [impl_isField.j0]
  refine ev_neg (by simp) (ev_bind0 (fieldOf_eq _ _) ?_)
  unfold ifOk
  refine ev_ite (fun h4 => ev_cast good (by simp [h4])) (fun h4 => ?_)
  have h4' : (F.f6.toList == []) = false := by simpa using h4
  rw [h4', Bool.false_or]
  have hif : fidx (form.take i) F.f6 = if ((0 : Nat) : Int) ≤ fidx form F.f6 ∧ fidx form F.f6 < ((0 + i : Nat) : Int) then fidx form F.f6 else -1 := idxG_take _ form 0 i
  refine ev_ite (fun h5 => bad _ ?_) (fun h5 => ?_)
  · have : ¬ (0 ≤ fidx form F.f6 ∧ fidx form F.f6 < (i : Int)) := by
      intro h
      rw [hif, if_pos (by omega)] at h5
      omega
    rw [decide_eq_false this]; simp
  · have hr : 0 ≤ fidx form F.f6 ∧ fidx form F.f6 < (i : Int) := by
      refine Classical.byContradiction (fun h => ?_)
      rw [hif, if_neg (by omega)] at h5
      omega
    have he : fidx (form.take i) F.f6 = fidx form F.f6 := by rw [hif, if_pos (by omega)]
    rw [decide_eq_true hr, Bool.true_and]
    have hlen : (form.take i).length = i := by simp; omega
    refine ev_pos (by omega) (ev_pos (by rw [he, hlen]; omega) ?_)
    have hrd : rd_T69 (form.take i) (fidx (form.take i) F.f6) = form.getD (fidx form F.f6).toNat zF := by
      unfold rd_T69
      rw [he, getD_in (by rw [hlen]; omega), List.getElem_take, getD_in (by omega)]
    simp only [hrd]
    by_cases h7 : (form.getD (fidx form F.f6).toNat zF).f1 = 4
    · have e : ((form.getD (fidx form F.f6).toNat zF).f1 != 4) = false := bne_eq_false_iff_eq.mpr h7
      rw [e, h7]
      exact ev_cast good (by simp)
    · have e : ((form.getD (fidx form F.f6).toNat zF).f1 != 4) = true := bne_iff_ne.mpr h7
      rw [e]
      rw [show ((form.getD (fidx form F.f6).toNat zF).f1 == 4) = false from beq_eq_false_iff_ne.mpr h7]
      exact bad _ (by simp)
theorem implForm_ev (form : List Field) (hl : form.length ≤ 9223372036854775807) (hf : ∀ f ∈ form, fine f) : Ev (fun k => impl_IsValidForm.f k form) (formB form) := by
  have h := ev_all0 (L := fun k i => impl_IsValidForm.l0 k form form (form.length : Int) i) form.length (fieldB form) false (decide ((form.length : Int) ≤ 10)) (fun _ => Ev.step (fun k => rfl) (ev_neg (by omega) (ev_now rfl))) ?h1 ?h2
  case h1 =>
    intro i hi _ hc y hy
    refine Ev.step (fun k => rfl) (ev_pos (by omega) (ev_pos (by omega) (ev_pos (by omega) (ev_pos (by omega) ?_))))
    simp only [rd_T69, Int.toNat_natCast]
    refine Ev.bind (implField_ev form i hi hl (hf _ (by rw [getD_in hi]; exact List.getElem_mem hi))) (ev_pos hc ?_)
    rw [wrap_succ hi hl]; exact hy
  case h2 =>
    intro i hi _ hc
    refine Ev.step (fun k => rfl) (ev_pos (by omega) (ev_pos (by omega) (ev_pos (by omega) (ev_pos (by omega) ?_))))
    simp only [rd_T69, Int.toNat_natCast]
    exact Ev.bind (implField_ev form i hi hl (hf _ (by rw [getD_in hi]; exact List.getElem_mem hi))) (ev_neg (by rw [hc]; simp) (ev_now rfl))
  refine ev_cast h ?_
  unfold formB
  cases (List.range form.length).all (fieldB form) <;> simp
end Go.Proofs.YtdogpphfofimeaaDoor.X
set_option linter.unusedVariables false
set_option linter.unusedSimpArgs false
namespace Go.Proofs.YtdogpphfofimeaaDoor.X
open Go.RowKit Go.Proofs.YtdogpphfofimeaaDoorW.PrintWords Go.Proofs.YtdogpphfofimeaaDoor.E
abbrev Answer := S58
def fineA (a : Answer) : Prop := a.f0.size ≤ 9223372036854775807 ∧ a.f1.size ≤ 9223372036854775807
/-- The place of the last answered field ahead. -/
def lastI (form : List Field) (ans : List Answer) (i : Nat) : Int := if i = 0 then -1 else fidx form (ans.getD (i - 1) z58).f0
theorem lastI_succ (form : List Field) (ans : List Answer) (i : Nat) : lastI form ans (i + 1) = fidx form (ans.getD i z58).f0 := by
  unfold lastI
  rw [if_neg (by omega), Nat.add_sub_cancel]
def ansAt (form : List Field) (ans : List Answer) (i : Nat) : Bool := decide (lastI form ans i < fidx form (ans.getD i z58).f0) && textB (ans.getD i z58).f1
def ansB (form : List Field) (ans : List Answer) : Bool := formB form && (List.range ans.length).all (ansAt form ans)
theorem ans_short {form : List Field} {ans : List Answer} (h : (List.range ans.length).all (ansAt form ans) = true) : ans.length ≤ form.length := by
  have h' := all_range.1 h
  have low : ∀ i, i ≤ ans.length → (i : Int) - 1 ≤ lastI form ans i := by
    intro i
    induction i with
    | zero => intro _; simp [lastI]
    | succ i ih =>
      intro hi
      have h1 := ih (by omega)
      have h2 := h' i (by omega)
      simp only [ansAt, Bool.and_eq_true, decide_eq_true_eq] at h2
      rw [lastI_succ]
      omega
  rcases Nat.eq_zero_or_pos ans.length with e | e
  · omega
  · have h1 := low ans.length (Nat.le_refl _)
    have h3 : lastI form ans ans.length < (form.length : Int) := by
      rw [show ans.length = (ans.length - 1) + 1 from by omega, lastI_succ]
      rcases idxG_range (fun x : Field => x.f0.toList == (ans.getD (ans.length - 1) z58).f0.toList) form with h | h
      · show fidx form _ < _
        rw [fidx, h]; omega
      · exact h.2
    omega
theorem implAnswers_ev (form : List Field) (ans : List Answer) (hl : form.length ≤ 9223372036854775807) (hf : ∀ f ∈ form, fine f) (hla : ans.length ≤ 9223372036854775807) (ha : ∀ a ∈ ans, fineA a) :
    Ev (fun k => impl_IsValidAnswers.f k form ans) (ansB form ans) := by
  have h := ev_all (L := fun k (s : Int) i => impl_IsValidAnswers.l0 k form s ans (ans.length : Int) i) ans.length (lastI form ans) (ansAt form ans) false (formB form)
    (fun _ => Ev.step (fun k => rfl) (ev_neg (by omega) (Ev.bind (implForm_ev form hl hf) (ev_now rfl)))) ?h1 ?h2
  case h1 =>
    intro i hi _ hc y hy
    simp only [ansAt, Bool.and_eq_true, decide_eq_true_eq] at hc
    have hfa := ha _ (List.getElem_mem hi)
    rw [← getD_in hi z58] at hfa
    refine Ev.step (fun k => rfl) (ev_pos (by omega) (ev_pos (by omega) (ev_pos (by omega) ?_)))
    simp only [rd_T58, Int.toNat_natCast, fieldOf_eq]
    refine ev_some (ev_neg (by omega) (Ev.bind (isText_ev _ hfa.2) (ev_pos hc.2 ?_)))
    rw [wrap_succ hi hla]
    rw [lastI_succ] at hy
    exact hy
  case h2 =>
    intro i hi _ hc
    have hfa := ha _ (List.getElem_mem hi)
    rw [← getD_in hi z58] at hfa
    refine Ev.step (fun k => rfl) (ev_pos (by omega) (ev_pos (by omega) (ev_pos (by omega) ?_)))
    simp only [rd_T58, Int.toNat_natCast, fieldOf_eq]
    refine ev_some (ev_ite (fun _ => ev_now rfl) (fun h1 => Ev.bind (isText_ev _ hfa.2) (ev_neg ?_ (ev_now rfl))))
    intro h2
    have : ansAt form ans i = true := by
      simp only [ansAt, Bool.and_eq_true, decide_eq_true_eq]
      exact ⟨by omega, h2⟩
    rw [this] at hc; cases hc
  refine ev_cast h ?_
  unfold ansB
  cases (List.range ans.length).all (ansAt form ans) <;> simp
theorem specAnswers_ev (form : List Field) (ans : List Answer) (hl : form.length ≤ 9223372036854775807) (hf : ∀ f ∈ form, fine f) (hla : ans.length ≤ 9223372036854775807) (ha : ∀ a ∈ ans, fineA a) :
    Ev (fun k => spec_l23Answers.f k form ans) (ansB form ans) := by
  unfold spec_l23Answers.f
  refine Ev.bind (specForm_ev form hl hf) ?_
  unfold ansB
  have stop : ∀ b, b = false → Ev (fun k => spec_l23Answers.j0 k form ans true) b := fun b hb => hb ▸ Ev.step (fun k => rfl) (ev_now rfl)
  refine ev_ite (fun h1 => ?_) (fun h1 => stop _ (by simp [h1]))
  rw [h1, Bool.true_and]
  by_cases h2 : (ans.length : Int) > (form.length : Int)
  · rw [decide_eq_true h2]
    refine stop _ ?_
    rw [Bool.eq_false_iff]
    intro h
    have := ans_short h
    omega
  rw [decide_eq_false h2]
  refine Ev.step (fun k => rfl) ?_
  simp only [spec_l23Answers.j0]
  refine ev_neg (by simp) ?_
  have h := ev_all (L := fun k (s : Int) i => spec_l23Answers.l0 k form ans s i) ans.length (lastI form ans) (ansAt form ans) false true
    (fun _ => Ev.step (fun k => rfl) (ev_neg (by omega) (ev_now rfl))) ?h1 ?h2
  case h1 =>
    intro i hi _ hc y hy
    simp only [ansAt, Bool.and_eq_true, decide_eq_true_eq] at hc
    have hfa := ha _ (List.getElem_mem hi)
    rw [← getD_in hi z58] at hfa
    refine Ev.step (fun k => rfl) (ev_pos (by omega) (ev_pos (by omega) ?_))
    simp only [rd_T58, Int.toNat_natCast]
    refine Ev.bind (l23Find_ev form _ hl) (ev_neg (by omega) (Ev.bind (l21Text_ev _ hfa.2) (ev_pos hc.2 ?_)))
    rw [wrap_succ hi hla]
    rw [lastI_succ] at hy
    exact hy
  case h2 =>
    intro i hi _ hc
    have hfa := ha _ (List.getElem_mem hi)
    rw [← getD_in hi z58] at hfa
    refine Ev.step (fun k => rfl) (ev_pos (by omega) (ev_pos (by omega) ?_))
    simp only [rd_T58, Int.toNat_natCast]
    refine Ev.bind (l23Find_ev form _ hl) (ev_ite (fun _ => ev_now rfl) (fun h1 => Ev.bind (l21Text_ev _ hfa.2) (ev_neg ?_ (ev_now rfl))))
    intro h2
    have : ansAt form ans i = true := by
      simp only [ansAt, Bool.and_eq_true, decide_eq_true_eq]
      exact ⟨by omega, h2⟩
    rw [this] at hc; cases hc
  refine ev_cast h ?_
  cases (List.range ans.length).all (ansAt form ans) <;> rfl
end Go.Proofs.YtdogpphfofimeaaDoor.X
set_option linter.unusedVariables false
set_option linter.unusedSimpArgs false
namespace Go.Proofs.YtdogpphfofimeaaDoor.X
open Go.RowKit Go.Proofs.YtdogpphfofimeaaDoorW.PrintWords Go.Proofs.YtdogpphfofimeaaDoor.E
abbrev zA : Answer := z58
/-- The place of an answer's field. -/
abbrev pos (form : List Field) (ans : List Answer) (i : Nat) : Int := fidx form (ans.getD i zA).f0
structure Valid (form : List Field) (ans : List Answer) : Prop where
  len : form.length ≤ 10
  name : ∀ j, j < form.length → fidx form (form.getD j zF).f0 = (j : Int)
  up : ∀ i, i < ans.length → lastI form ans i < pos form ans i
  fld : ∀ j, j < form.length → fieldB form j = true
  txt : ∀ i, i < ans.length → textB (ans.getD i zA).f1 = true
theorem valid_of {form : List Field} {ans : List Answer} (h : ansB form ans = true) : Valid form ans := by
  unfold ansB formB at h
  rw [Bool.and_eq_true, Bool.and_eq_true, decide_eq_true_eq, all_range, all_range] at h
  obtain ⟨⟨h1, h2⟩, h3⟩ := h
  refine ⟨by omega, fun j hj => ?_, fun i hi => ?_, h2, fun i hi => ?_⟩
  · have := h2 j hj
    unfold fieldB at this
    simp only [Bool.and_eq_true, decide_eq_true_eq] at this
    exact this.1.1.1.2
  · have := h3 i hi
    unfold ansAt at this
    rw [Bool.and_eq_true, decide_eq_true_eq] at this
    exact this.1
  · have := h3 i hi
    unfold ansAt at this
    rw [Bool.and_eq_true] at this
    exact this.2
/-- The answer to a field, as both look it up. -/
def look (ans : List Answer) (n : ByteArray) : Option Answer := ans.find? (fun x => x.f0.toList == n.toList)
end Go.Proofs.YtdogpphfofimeaaDoor.X
set_option linter.unusedVariables false
set_option linter.unusedSimpArgs false
namespace Go.Proofs.YtdogpphfofimeaaDoor.X
open Go.RowKit Go.Proofs.YtdogpphfofimeaaDoorW.PrintWords Go.Proofs.YtdogpphfofimeaaDoor.E
def txtOf (ans : List Answer) (n : ByteArray) : ByteArray := match look ans n with
  | some x => x.f1
  | none => ⟨#[]⟩
def visAt (form : List Field) (ans : List Answer) (V : List Bool) (i : Nat) : Bool := if (form.getD i zF).f6.toList = ([] : List UInt8) then true else (if rdOf false V (fidx form (form.getD i zF).f6) = true then ((txtOf ans (form.getD i zF).f6).toList == ([121, 101, 115] : List UInt8)) else false)
def visL (form : List Field) (ans : List Answer) : Nat → List Bool
  | 0 => []
  | i + 1 => visL form ans i ++ [visAt form ans (visL form ans i) i]
theorem visL_length (form : List Field) (ans : List Answer) : ∀ i, (visL form ans i).length = i
  | 0 => rfl
  | i + 1 => by rw [visL, List.length_append, visL_length form ans i, List.length_singleton]
theorem if_at {form : List Field} {ans : List Answer} (V : Valid form ans) {i : Nat} (hi : i < form.length) (h : ¬ (form.getD i zF).f6.toList = ([] : List UInt8)) : ∃ q : Nat, fidx form (form.getD i zF).f6 = (q : Int) ∧ q < i := by
  have h1 := V.fld i hi
  unfold fieldB at h1
  simp only [Bool.and_eq_true] at h1
  have h2 := h1.1.2
  unfold ifOk at h2
  rw [Bool.or_eq_true, Bool.and_eq_true, decide_eq_true_eq] at h2
  rcases h2 with h2 | h2
  · exact absurd (by simpa using h2) h
  · exact ⟨(fidx form (form.getD i zF).f6).toNat, by omega, by omega⟩
theorem answerOf_eq (ans : List Answer) (n : ByteArray) : ∃ b, impl_answerOf.f ans n = some (txtOf ans n, b) ∧ b = (look ans n).isSome := by
  unfold impl_answerOf.f txtOf look
  cases ans.find? (fun y => y.f0.toList == n.toList) with
  | none => exact ⟨_, rfl, rfl⟩
  | some a => exact ⟨_, rfl, rfl⟩
theorem l23Text_ev (ans : List Answer) (n : ByteArray) (hl : ans.length ≤ 9223372036854775807) : Ev (fun k => spec_l23Text.f k ans n) (txtOf ans n, (look ans n).isSome) := by
  have h := ev_walk (L := fun k i => spec_l23Text.l0 k ans n i) (G := fun i r => ((match look r n with | some x => x.f1 | none => (⟨#[]⟩ : ByteArray)), (look r n).isSome)) ans (Ev.step (fun k => rfl) (ev_neg (by omega) (ev_now rfl))) ?step
  case step =>
    intro i x r hi hd hx hk
    refine Ev.step (fun k => rfl) (ev_pos (by omega) (ev_pos (by omega) ?_))
    simp only [rd_T58, Int.toNat_natCast, hx]
    by_cases c : x.f0.toList = n.toList
    · exact ev_pos c (ev_now (by simp [look, c]))
    · refine ev_neg c ?_
      rw [wrap_succ hi hl]
      have e : look (x :: r) n = look r n := by unfold look; rw [List.find?_cons_of_neg (by simpa using c)]
      rw [e]
      exact hk
  exact h
theorem implVis_ev (form : List Field) (ans : List Answer) (V : Valid form ans) : Ev (fun k => impl_visible.f k form ans) (visL form ans form.length) := by
  have hlen := V.len
  have h := ev_all (L := fun k (s : List Bool) i => impl_visible.l0 k form ans s form (form.length : Int) i) form.length (fun i => visL form ans i ++ List.replicate (form.length - i) false) (fun _ => true) [] (visL form ans form.length) ?h0 ?h1 (fun i hi _ hc => nomatch hc)
  case h0 =>
    intro _
    refine Ev.step (fun k => rfl) (ev_neg (by omega) (ev_now ?_))
    rw [Nat.sub_self, List.replicate_zero, List.append_nil]
  case h1 =>
    intro i hi _ _ y hy
    have hvl := visL_length form ans i
    have hsl : (visL form ans i ++ List.replicate (form.length - i) false).length = form.length := by rw [List.length_append, hvl, List.length_replicate]; omega
    have hset : ∀ b, (visL form ans i ++ List.replicate (form.length - i) false).set i b = (visL form ans i ++ [b]) ++ List.replicate (form.length - (i + 1)) false := by
      intro b
      rw [List.set_append_right _ _ (by omega), hvl, Nat.sub_self, show form.length - i = (form.length - (i + 1)) + 1 by omega, List.replicate_succ, List.set_cons_zero, List.append_assoc]
      rfl
    have hgo : ∀ b, b = visAt form ans (visL form ans i) i → Ev (fun k => impl_visible.l0 k form ans ((visL form ans i ++ List.replicate (form.length - i) false).set (i : Int).toNat b) form (form.length : Int) (wrap64 ((i : Int) + 1))) y := by
      intro b hb
      rw [Int.toNat_natCast, hset, wrap_succ hi (by omega), hb]
      exact hy
    refine Ev.step (fun k => rfl) (ev_pos (by omega) (ev_pos (by omega) (ev_pos (by omega) ?_)))
    simp only [rd_T69, Int.toNat_natCast]
    by_cases c : (form.getD i zF).f6.toList = ([] : List UInt8)
    · refine ev_pos c (ev_pos (by rw [hsl]; omega) ?_)
      exact hgo true (by unfold visAt; rw [if_pos c])
    · refine ev_neg c ?_
      obtain ⟨b, hb, _⟩ := answerOf_eq ans (form.getD i zF).f6
      obtain ⟨q, hq, hqi⟩ := if_at V hi c
      refine ev_bind0 hb (ev_bind0 (fieldOf_eq _ _) ?_)
      rw [show fidx form (form.getD i zF).f6 = (q : Int) from hq]
      have hr : rdOf false (visL form ans i ++ List.replicate (form.length - i) false) (q : Int) = rdOf false (visL form ans i) (q : Int) := by
        unfold rdOf
        rw [Int.toNat_natCast, List.getD_eq_getElem?_getD, List.getD_eq_getElem?_getD, List.getElem?_append_left (by omega)]
      rw [hr]
      refine ev_pos (by omega) (ev_pos (by rw [hsl]; omega) ?_)
      by_cases d : rdOf false (visL form ans i) (q : Int) = true
      · refine ev_pos d (ev_pos (by rw [hsl]; omega) ?_)
        exact hgo _ (by unfold visAt; rw [if_neg c, hq, if_pos d])
      · refine ev_neg d (ev_pos (by rw [hsl]; omega) ?_)
        exact hgo false (by unfold visAt; rw [if_neg c, hq, if_neg d])
  unfold impl_visible.f
  rw [Int.toNat_natCast]
  refine ev_pos (by omega) (ev_pos (by omega) ?_)
  rw [if_pos (by rw [all_range]; intro i hi; rfl)] at h
  exact h
theorem specVis_ev (form : List Field) (ans : List Answer) (V : Valid form ans) (hla : ans.length ≤ 9223372036854775807) : Ev (fun k => spec_l23Visible.f k form ans) (visL form ans form.length) := by
  have hlen := V.len
  have h := ev_all (L := fun k (s : List Bool) i => spec_l23Visible.l0 k form ans s i) form.length (fun i => visL form ans i) (fun _ => true) [] (visL form ans form.length) ?h0 ?h1 (fun i hi _ hc => nomatch hc)
  case h0 =>
    intro _
    exact Ev.step (fun k => rfl) (ev_neg (by omega) (ev_now rfl))
  case h1 =>
    intro i hi _ _ y hy
    have hvl := visL_length form ans i
    have hgo : ∀ b, b = visAt form ans (visL form ans i) i → Ev (fun k => spec_l23Visible.l0 k form ans (visL form ans i ++ [b]) (wrap64 ((i : Int) + 1))) y := by
      intro b hb
      rw [wrap_succ hi (by omega), hb]
      exact hy
    refine Ev.step (fun k => rfl) (ev_pos (by omega) (ev_pos (by omega) ?_))
    simp only [rd_T69, Int.toNat_natCast]
    by_cases c : (form.getD i zF).f6.toList = ([] : List UInt8)
    · refine ev_pos c (ev_pos (by rw [hvl]; omega) ?_)
      exact hgo true (by unfold visAt; rw [if_pos c])
    · refine ev_neg c ?_
      obtain ⟨q, hq, hqi⟩ := if_at V hi c
      refine Ev.bind (l23Text_ev ans _ hla) (Ev.bind (l23Find_ev form _ (by omega)) ?_)
      rw [show fidx form (form.getD i zF).f6 = (q : Int) from hq]
      refine ev_pos (by omega) (ev_pos (by rw [hvl]; omega) ?_)
      by_cases d : rdOf false (visL form ans i) (q : Int) = true
      · refine ev_pos d (ev_pos (by rw [hvl]; omega) ?_)
        exact hgo _ (by unfold visAt; rw [if_neg c, hq, if_pos d])
      · refine ev_neg d (ev_pos (by rw [hvl]; omega) ?_)
        exact hgo false (by unfold visAt; rw [if_neg c, hq, if_neg d])
  unfold spec_l23Visible.f
  rw [if_pos (by rw [all_range]; intro i hi; rfl)] at h
  exact h
end Go.Proofs.YtdogpphfofimeaaDoor.X
set_option linter.unusedVariables false
set_option linter.unusedSimpArgs false
namespace Go.Proofs.YtdogpphfofimeaaDoor.X
open Go.RowKit Go.Proofs.YtdogpphfofimeaaDoorW.PrintWords Go.Proofs.YtdogpphfofimeaaDoor.E
def numB (n : Int) : ByteArray := ⟨(Lib.itoa n).toArray⟩
def decB (u : Nat) : ByteArray := ⟨(Lib.decDigits u).toArray⟩
theorem digit_fin : ∀ i : Fin 10, (⟨#[48, 49, 50, 51, 52, 53, 54, 55, 56, 57]⟩ : ByteArray).extract i.val (i.val + 1) = ⟨#[UInt8.ofNat (48 + i.val)]⟩ := by decide +kernel
theorem digit_at (i : Int) (j : Int) (h0 : 0 ≤ i) (h1 : i < 10) (hj : j = i + 1) : (⟨#[48, 49, 50, 51, 52, 53, 54, 55, 56, 57]⟩ : ByteArray).extract i.toNat j.toNat = ⟨#[UInt8.ofNat (48 + i.toNat)]⟩ := by
  rw [show j.toNat = i.toNat + 1 by omega]
  exact digit_fin ⟨i.toNat, by omega⟩
theorem ba_append (l m : List UInt8) : (⟨l.toArray⟩ : ByteArray) ++ (⟨m.toArray⟩ : ByteArray) = ⟨(l ++ m).toArray⟩ := by
  apply ByteArray.ext
  rw [ByteArray.data_append]
  simp
theorem ba_size (l : List UInt8) : (⟨l.toArray⟩ : ByteArray).size = l.length := rfl
theorem decB_size (u : Nat) (h : u < 18446744073709551616) : (decB u).size ≤ 20 := by
  unfold decB
  rw [ba_size, Lib.decDigits_length]
  exact Lib.nDigits_le20 u h
theorem l1Num_nat : ∀ (u : Nat), u ≤ 9223372036854775807 → Ev (fun k => spec_l1Num.f k (u : Int)) (decB u) := by
  intro u
  induction u using Nat.strongRecOn with
  | _ u ih =>
    intro hu
    refine Ev.step (fun k => rfl) (ev_neg (by omega) ?_)
    by_cases h : u < 10
    · have hw : wrap64 ((u : Int) + 1) = (u : Int) + 1 := wrap_id (by omega) (by omega)
      rw [hw]
      refine ev_pos (by omega) (ev_pos (by omega) (ev_pos (by omega) (ev_pos (by omega) (ev_now ?_))))
      rw [digit_at (u : Int) _ (by omega) (by omega) rfl]
      unfold decB
      rw [Lib.decDigits, dif_pos h, Int.toNat_natCast]
    · refine ev_neg (by omega) ?_
      have hd : Int.tdiv (u : Int) 10 = ((u / 10 : Nat) : Int) := by rw [Int.tdiv_eq_ediv_of_nonneg (by omega)]; omega
      have hm : Int.tmod (u : Int) 10 = ((u % 10 : Nat) : Int) := by rw [Int.tmod_eq_emod_of_nonneg (by omega)]; omega
      have hw : wrap64 ((u / 10 : Nat) : Int) = ((u / 10 : Nat) : Int) := wrap_id (by omega) (by omega)
      have hw2 : wrap64 (((u % 10 : Nat) : Int) + 1) = ((u % 10 : Nat) : Int) + 1 := wrap_id (by omega) (by omega)
      rw [hd, hw, hm, hw2]
      refine Ev.bind (ih (u / 10) (by omega) (by omega)) ?_
      rw [digit_at ((u % 10 : Nat) : Int) _ (by omega) (by omega) rfl]
      have hs := decB_size (u / 10) (by omega)
      have h1 : (⟨#[UInt8.ofNat (48 + ((u % 10 : Nat) : Int).toNat)]⟩ : ByteArray).size = 1 := rfl
      refine ev_pos (by omega) (ev_pos (by omega) (ev_pos (by omega) (ev_pos (by omega) (ev_now ?_))))
      unfold decB
      rw [show (⟨#[UInt8.ofNat (48 + ((u % 10 : Nat) : Int).toNat)]⟩ : ByteArray) = ⟨[UInt8.ofNat (48 + u % 10)].toArray⟩ by rw [Int.toNat_natCast], ba_append]
      conv => rhs; rw [Lib.decDigits, dif_neg h]
theorem l1Num_ev (n : Int) (h0 : -9223372036854775807 ≤ n) (h1 : n ≤ 9223372036854775807) : Ev (fun k => spec_l1Num.f k n) (numB n) := by
  by_cases hn : n < 0
  · have hw : wrap64 (-n) = ((n.natAbs : Nat) : Int) := by rw [wrap_id (by omega) (by omega)]; omega
    refine Ev.step (fun k => rfl) (ev_pos hn ?_)
    rw [hw]
    have hs := decB_size n.natAbs (by omega)
    refine Ev.bind (l1Num_nat _ (by omega)) (ev_pos (by omega) (ev_now ?_))
    unfold numB decB
    rw [show (⟨#[45]⟩ : ByteArray) = ⟨[45].toArray⟩ from rfl, ba_append, Lib.itoa, if_pos hn]
    rfl
  · obtain ⟨u, rfl⟩ : ∃ u : Nat, n = u := ⟨n.toNat, by omega⟩
    refine ev_cast (l1Num_nat u (by omega)) ?_
    unfold numB decB
    rw [Lib.itoa, if_neg hn, Int.toNat_natCast]
end Go.Proofs.YtdogpphfofimeaaDoor.X
set_option linter.unusedVariables false
set_option linter.unusedSimpArgs false
namespace Go.Proofs.YtdogpphfofimeaaDoor.X
open Go.RowKit Go.Proofs.YtdogpphfofimeaaDoorW.PrintWords Go.Proofs.YtdogpphfofimeaaDoor.E
theorem dec_digit : ∀ (u : Nat), ∀ c ∈ Lib.decDigits u, 48 ≤ c.toNat ∧ c.toNat ≤ 57 := by
  intro u
  induction u using Nat.strongRecOn with
  | _ u ih =>
    intro c hc
    have one : ∀ d, d < 10 → 48 ≤ (UInt8.ofNat (48 + d)).toNat ∧ (UInt8.ofNat (48 + d)).toNat ≤ 57 := by
      intro d hd
      have : ∀ j : Fin 10, 48 ≤ (UInt8.ofNat (48 + j.val)).toNat ∧ (UInt8.ofNat (48 + j.val)).toNat ≤ 57 := by decide +kernel
      exact this ⟨d, hd⟩
    rw [Lib.decDigits] at hc
    split at hc
    · rw [List.mem_singleton.1 hc]; exact one u (by omega)
    · rcases List.mem_append.1 hc with h | h
      · exact ih (u / 10) (by omega) c h
      · rw [List.mem_singleton.1 h]; exact one _ (by omega)
theorem dec_one (d : Nat) (hd : d < 10) : (UInt8.ofNat (48 + d)).toNat = 48 + d := by
  have : ∀ j : Fin 10, (UInt8.ofNat (48 + j.val)).toNat = 48 + j.val := by decide +kernel
  exact this ⟨d, hd⟩
theorem dec_len : ∀ (k u : Nat), u < 10 ^ (k + 1) → 1 ≤ (Lib.decDigits u).length ∧ (Lib.decDigits u).length ≤ k + 1 := by
  intro k
  induction k with
  | zero =>
    intro u hu
    rw [Lib.decDigits, dif_pos (by simpa using hu)]
    simp
  | succ k ih =>
    intro u hu
    rw [Lib.decDigits]
    split
    · simp
    · have := ih (u / 10) (by rw [Nat.pow_succ] at hu; omega)
      rw [List.length_append, List.length_singleton]
      omega
def dv (l : List UInt8) : Int := l.foldl (fun a c => 10 * a + ((c.toNat : Int) - 48)) 0
theorem dv_snoc (l : List UInt8) (c : UInt8) : dv (l ++ [c]) = 10 * dv l + ((c.toNat : Int) - 48) := by unfold dv; rw [List.foldl_append]; rfl
theorem dv_dec : ∀ (u : Nat), dv (Lib.decDigits u) = (u : Int) := by
  intro u
  induction u using Nat.strongRecOn with
  | _ u ih =>
    rw [Lib.decDigits]
    split
    · rename_i h
      show dv ([] ++ [UInt8.ofNat (48 + u)]) = _
      rw [dv_snoc, dec_one u h]
      simp [dv]
      omega
    · rw [dv_snoc, ih (u / 10) (by omega), dec_one _ (by omega)]
      omega
theorem pu_snoc : ∀ (l : List UInt8) (acc m : Nat) (c : UInt8), Lib.parseUint10 acc l = .ok m → m < 1000000000000 → 48 ≤ c.toNat ∧ c.toNat ≤ 57 → Lib.parseUint10 acc (l ++ [c]) = .ok (m * 10 + (c.toNat - 48))
  | [], acc, m, c, h, hm, hc => by
    simp only [Lib.parseUint10] at h
    injection h with h
    subst h
    simp only [List.nil_append, Lib.parseUint10]
    rw [if_pos hc, if_neg (by omega), if_neg (by omega)]
  | b :: r, acc, m, c, h, hm, hc => by
    simp only [Lib.parseUint10] at h
    simp only [List.cons_append, Lib.parseUint10]
    split at h
    · rename_i h1
      rw [if_pos h1]
      split at h
      · cases h
      · rename_i h2
        rw [if_neg h2]
        split at h
        · cases h
        · rename_i h3
          rw [if_neg h3]
          exact pu_snoc r _ m c h hm hc
    · cases h
theorem pu_dec : ∀ (u : Nat), u < 1000000000000 → Lib.parseUint10 0 (Lib.decDigits u) = .ok u := by
  intro u
  induction u using Nat.strongRecOn with
  | _ u ih =>
    intro hu
    rw [Lib.decDigits]
    split
    · rename_i h
      have := pu_snoc [] 0 0 (UInt8.ofNat (48 + u)) rfl (by omega) (by rw [dec_one u h]; omega)
      rw [List.nil_append, dec_one u h] at this
      rw [this]
      congr 1
      omega
    · have := pu_snoc _ 0 (u / 10) (UInt8.ofNat (48 + u % 10)) (ih (u / 10) (by omega) (by omega)) (by omega) (by rw [dec_one _ (by omega)]; omega)
      rw [this, dec_one _ (by omega)]
      congr 1
      omega
theorem dec_ne (u : Nat) : Lib.decDigits u ≠ [] := by
  rw [Lib.decDigits]
  split <;> simp
theorem mag_dec (u : Nat) (hu : u < 1000000000000) : Lib.parseMag (Lib.decDigits u) = .ok u := by
  unfold Lib.parseMag
  rw [if_neg (dec_ne u)]
  exact pu_dec u hu
theorem atoi_itoa (v : Int) (h0 : -999999 ≤ v) (h1 : v ≤ 999999) : Lib.atoiAll (Lib.itoa v) = .ok v := by
  unfold Lib.itoa
  by_cases c : v < 0
  · rw [if_pos c, Lib.atoiAll_minus, mag_dec _ (by omega)]
    simp only [Lib.signed]
    rw [if_neg (by omega)]
    congr 1
    omega
  · rw [if_neg c]
    have hm := mag_dec v.toNat (by omega)
    cases hd : Lib.decDigits v.toNat with
    | nil => exact absurd hd (dec_ne _)
    | cons b r =>
      have hb := dec_digit v.toNat b (by rw [hd]; exact List.mem_cons_self ..)
      rw [hd] at hm
      rw [Lib.atoiAll_plain b r (by omega) (by omega), hm]
      simp only [Lib.signless]
      rw [if_neg (by omega)]
      congr 1
      omega
def IsNum (s : ByteArray) : Prop := ∃ v : Int, -999999 ≤ v ∧ v ≤ 999999 ∧ s = numB v
theorem parse_num {v : Int} (h0 : -999999 ≤ v) (h1 : v ≤ 999999) : parseE (numB v) = (v, true) := by
  unfold parseE
  have e : (numB v).data.toList = Lib.itoa v := by unfold numB; simp
  rw [e, atoi_itoa v h0 h1]
  exact if_pos ⟨⟨h0, h1⟩, rfl⟩
theorem parse_not {s : ByteArray} (h : ¬ IsNum s) : parseE s = (0, false) := by
  unfold parseE
  split
  · rename_i v hv
    split
    · rename_i hc
      refine absurd ⟨v, hc.1.1, hc.1.2, ?_⟩ h
      unfold numB
      rw [hc.2]
    · rfl
  · rfl
theorem bt_list (l : List UInt8) (i : Nat) (h : i < l.length) : bt ⟨l.toArray⟩ (i : Int) = ((l[i]).toNat : Int) := by
  unfold bt
  rw [Int.toNat_natCast]
  rw [dif_pos (show i < (⟨l.toArray⟩ : ByteArray).size from h)]
  rfl
def valT (t : ByteArray) : Nat → Int
  | 0 => 0
  | i + 1 => 10 * valT t i + (bt t (i : Int) - 48)
def digT (t : ByteArray) (i : Nat) : Bool := decide (48 ≤ bt t (i : Int) ∧ bt t (i : Int) ≤ 57)
theorem valT_bound (t : ByteArray) : ∀ i, i ≤ 6 → (∀ j, j < i → digT t j = true) → 0 ≤ valT t i ∧ valT t i < (10 ^ i : Nat)
  | 0, _, _ => by simp [valT]
  | i + 1, hi, h => by
    have h1 := valT_bound t i (by omega) (fun j hj => h j (by omega))
    have h2 := of_decide_eq_true (h i (by omega))
    simp only [valT]
    have : ((10 ^ (i + 1) : Nat) : Int) = 10 * ((10 ^ i : Nat) : Int) := by rw [Nat.pow_succ]; omega
    omega
theorem valT_list (l : List UInt8) : ∀ i, i ≤ l.length → valT ⟨l.toArray⟩ i = dv (l.take i)
  | 0, _ => by simp [valT, dv]
  | i + 1, h => by
    rw [valT, valT_list l i (by omega), bt_list l i (by omega), List.take_succ_eq_append_getElem (by omega), dv_snoc]
/-- What the reference's reading comes to, the sign taken off. -/
def readT (s t : ByteArray) : Int × Bool := if (1 ≤ (t.size : Int) ∧ (t.size : Int) ≤ 6) ∧ (List.range t.size).all (digT t) = true then (if t.size < s.size then (if (numB (-(valT t t.size))).toList = s.toList then (-(valT t t.size), true) else (0, false)) else (if (numB (valT t t.size)).toList = s.toList then (valT t t.size, true) else (0, false))) else (0, false)
theorem read1_ev (s t : ByteArray) : Ev (fun k => spec_l1Read.j1 k s t) (readT s t) := by
  have hin : ∀ a l h : Int, spec_l1In.f a l h = some (decide (l ≤ a ∧ a ≤ h)) := fun a l h => by
    unfold spec_l1In.f
    by_cases h1 : a ≥ l
    · rw [if_pos h1]; congr 1; simp [h1]
    · rw [if_neg h1]; congr 1; symm; simp; intro h2; omega
  refine Ev.step (fun k => rfl) (ev_bind0 (hin _ _ _) (ev_ite (fun c => ?_) (fun c => ev_now ?_)))
  case refine_2 =>
    unfold readT
    rw [decide_eq_true_eq] at c
    rw [if_neg (fun h => c h.1)]
  rw [decide_eq_true_eq] at c
  have h := ev_all (L := fun k (n : Int) i => spec_l1Read.l0 k s t n i) t.size (valT t) (digT t) (0, false) (if t.size < s.size then (if (numB (-(valT t t.size))).toList = s.toList then (-(valT t t.size), true) else (0, false)) else (if (numB (valT t t.size)).toList = s.toList then (valT t t.size, true) else (0, false))) ?h0 ?h1 ?h2
  case h0 =>
    intro hd
    have hb := valT_bound t t.size (by omega) hd
    have hp : ((10 ^ t.size : Nat) : Int) ≤ 1000000 := by
      have : 10 ^ t.size ≤ 10 ^ 6 := Nat.pow_le_pow_right (by omega) (by omega)
      omega
    refine Ev.step (fun k => rfl) (ev_neg (by omega) ?_)
    have hw : wrap64 (-(valT t t.size)) = -(valT t t.size) := wrap_id (by omega) (by omega)
    by_cases d : t.size < s.size
    · rw [if_pos d]
      refine ev_pos (by omega) ?_
      rw [hw]
      refine Ev.bind (l1Num_ev _ (by omega) (by omega)) (ev_ite (fun e => ev_now (by rw [if_pos e])) (fun e => ev_now (by rw [if_neg e])))
    · rw [if_neg d]
      exact ev_neg (by omega) (Ev.bind (l1Num_ev _ (by omega) (by omega)) (ev_ite (fun e => ev_now (by rw [if_pos e])) (fun e => ev_now (by rw [if_neg e]))))
  case h1 =>
    intro i hi hd hc y hy
    have hb := valT_bound t i (by omega) hd
    have hp : ((10 ^ i : Nat) : Int) ≤ 1000000 := by
      have : 10 ^ i ≤ 10 ^ 6 := Nat.pow_le_pow_right (by omega) (by omega)
      omega
    have hc' := of_decide_eq_true hc
    refine Ev.step (fun k => rfl) (ev_pos (by omega) (ev_pos (by omega) (ev_neg (by omega) (ev_neg (by omega) ?_))))
    rw [wrap_succ hi (by omega), show (bt t (i : Int) - 48) % 256 = bt t (i : Int) - 48 by omega, show wrap64 (10 * valT t i) = 10 * valT t i from wrap_id (by omega) (by omega), show wrap64 (10 * valT t i + (bt t (i : Int) - 48)) = valT t (i + 1) from wrap_id (by omega) (by omega)]
    exact hy
  case h2 =>
    intro i hi _ hc
    have hc' := of_decide_eq_false hc
    refine Ev.step (fun k => rfl) (ev_pos (by omega) (ev_pos (by omega) (ev_ite (fun _ => ev_now rfl) (fun h1 => ev_pos (by omega) (ev_now rfl)))))
  refine ev_cast h ?_
  unfold readT
  by_cases d : (List.range t.size).all (digT t) = true
  · rw [if_pos d]
    exact (if_pos ⟨c, d⟩).symm
  · rw [if_neg d, if_neg (fun h => d h.2)]
def tailOf (s : ByteArray) : ByteArray := if (s.size : Int) > 1 ∧ bt s 0 = 45 then s.extract 1 s.size else s
theorem read_ev0 (s : ByteArray) : Ev (fun k => spec_l1Read.f k s) (readT s (tailOf s)) := by
  unfold spec_l1Read.f tailOf
  by_cases c : (s.size : Int) > 1
  · refine ev_pos c (ev_pos (by omega) ?_)
    by_cases d : bt s 0 = 45
    · rw [if_pos ⟨c, d⟩, show (bt s 0 == 45) = true by simpa using d]
      exact Ev.step (fun k => rfl) (show Ev (fun k => if 1 ≤ (s.size : Int) then spec_l1Read.j1 k s (s.extract 1 s.size) else none) _ from ev_pos (by omega) (read1_ev s _))
    · rw [if_neg (fun h => d h.2), show (bt s 0 == 45) = false by simpa using d]
      exact Ev.step (fun k => rfl) (show Ev (fun k => spec_l1Read.j1 k s s) _ from read1_ev s s)
  · rw [if_neg (fun h => c h.1)]
    exact ev_neg c (Ev.step (fun k => rfl) (show Ev (fun k => spec_l1Read.j1 k s s) _ from read1_ev s s))
theorem digits_all (u : Nat) : (List.range (⟨(Lib.decDigits u).toArray⟩ : ByteArray).size).all (digT ⟨(Lib.decDigits u).toArray⟩) = true := by
  rw [all_range]
  intro i hi
  have hi' : i < (Lib.decDigits u).length := hi
  unfold digT
  rw [bt_list _ i hi']
  have := dec_digit u _ (List.getElem_mem hi')
  exact decide_eq_true (by omega)
theorem val_dec (u : Nat) : valT ⟨(Lib.decDigits u).toArray⟩ (⟨(Lib.decDigits u).toArray⟩ : ByteArray).size = (u : Int) := by
  have := valT_list (Lib.decDigits u) (Lib.decDigits u).length (Nat.le_refl _)
  rw [List.take_length, dv_dec] at this
  exact this
theorem ba_inj2 {a b : ByteArray} (h : a.toList = b.toList) : a = b := by
  rw [Lib.toList_data, Lib.toList_data] at h
  exact ByteArray.ext (Array.toList_inj.1 h)
theorem readT_eq (s : ByteArray) : readT s (tailOf s) = parseE s := by
  by_cases hn : IsNum s
  · obtain ⟨v, h0, h1, rfl⟩ := hn
    rw [parse_num h0 h1]
    by_cases c : v < 0
    · have e : numB v = ⟨(45 :: Lib.decDigits v.natAbs).toArray⟩ := by unfold numB Lib.itoa; rw [if_pos c]
      have hl := dec_len 5 v.natAbs (by omega)
      have hsz : (numB v).size = 1 + (Lib.decDigits v.natAbs).length := by rw [e]; show (45 :: Lib.decDigits v.natAbs).length = _; rw [List.length_cons]; omega
      have hb : bt (numB v) 0 = 45 := by rw [e]; exact bt_list (45 :: Lib.decDigits v.natAbs) 0 (by simp)
      have ht : tailOf (numB v) = ⟨(Lib.decDigits v.natAbs).toArray⟩ := by
        unfold tailOf
        rw [if_pos ⟨by omega, hb⟩, hsz, e]
        apply ByteArray.ext
        rw [ByteArray.data_extract]
        apply Array.toList_inj.1
        rw [Array.toList_extract]
        simp [List.extract]
      have hts : (⟨(Lib.decDigits v.natAbs).toArray⟩ : ByteArray).size = (Lib.decDigits v.natAbs).length := rfl
      unfold readT
      rw [ht, if_pos ⟨⟨by omega, by omega⟩, digits_all _⟩, if_pos (by omega), val_dec, show -((v.natAbs : Nat) : Int) = v by omega, if_pos rfl]
    · have e : numB v = ⟨(Lib.decDigits v.toNat).toArray⟩ := by unfold numB Lib.itoa; rw [if_neg c]
      have hl := dec_len 5 v.toNat (by omega)
      have hts : (⟨(Lib.decDigits v.toNat).toArray⟩ : ByteArray).size = (Lib.decDigits v.toNat).length := rfl
      have ht : tailOf (numB v) = numB v := by
        unfold tailOf
        rw [if_neg]
        rintro ⟨_, hb⟩
        rw [e, show (0 : Int) = ((0 : Nat) : Int) from rfl, bt_list _ 0 (by omega)] at hb
        have := dec_digit v.toNat _ (List.getElem_mem (show 0 < (Lib.decDigits v.toNat).length by omega))
        omega
      unfold readT
      rw [ht]
      have hval : valT (numB v) (numB v).size = v := by rw [e, val_dec]; omega
      have hsz : (numB v).size = (Lib.decDigits v.toNat).length := by rw [e]; rfl
      rw [if_pos ⟨⟨by omega, by omega⟩, by rw [e]; exact digits_all _⟩, if_neg (by omega), hval, if_pos rfl]
  · rw [parse_not hn]
    unfold readT
    split
    · rename_i hc
      have hb := valT_bound (tailOf s) (tailOf s).size (by omega) (fun j hj => all_range.1 hc.2 j hj)
      have hp : ((10 ^ (tailOf s).size : Nat) : Int) ≤ 1000000 := by
        have : 10 ^ (tailOf s).size ≤ 10 ^ 6 := Nat.pow_le_pow_right (by omega) (by omega)
        omega
      split
      · split
        · rename_i he; exact absurd ⟨_, by omega, by omega, (ba_inj2 he).symm⟩ hn
        · rfl
      · split
        · rename_i he; exact absurd ⟨_, by omega, by omega, (ba_inj2 he).symm⟩ hn
        · rfl
    · rfl
theorem l1Read_ev (s : ByteArray) : Ev (fun k => spec_l1Read.f k s) (parseE s) := ev_cast (read_ev0 s) (readT_eq s)
theorem parseInt_eq (s : ByteArray) (h : s.size ≤ 281474976710656) : impl_ParseInt.f s = some (parseE s) := by unfold impl_ParseInt.f; rw [if_pos h]
end Go.Proofs.YtdogpphfofimeaaDoor.X
set_option linter.unusedVariables false
set_option linter.unusedSimpArgs false
namespace Go.Proofs.YtdogpphfofimeaaDoor.X
open Go.RowKit Go.Proofs.YtdogpphfofimeaaDoorW.PrintWords Go.Proofs.YtdogpphfofimeaaDoor.E
def valueB (f : Field) (t : ByteArray) : Bool :=
  if f.f1 = 1 then (parseE t).2 && decide (f.f2 ≤ (parseE t).1 ∧ (parseE t).1 ≤ f.f3)
  else if f.f1 = 2 then decide (f.f2 ≤ (t.size : Int) ∧ (t.size : Int) ≤ f.f3)
  else if f.f1 = 3 then f.f4.any (fun x => x.toList == t.toList)
  else (t.toList == ([121, 101, 115] : List UInt8)) || (t.toList == ([110, 111] : List UInt8))
theorem within_eq2 (a l h : Int) : impl_within.f a l h = some (decide (l ≤ a ∧ a ≤ h)) := by
  unfold impl_within.f
  by_cases h1 : a ≥ l
  · rw [if_pos h1]; congr 1; simp [h1]
  · rw [if_neg h1]; congr 1; symm; simp; intro h2; omega
theorem yes_no (t : ByteArray) : (if t.toList = ([121, 101, 115] : List UInt8) then some true else some (t.toList == ([110, 111] : List UInt8))) = some ((t.toList == ([121, 101, 115] : List UInt8)) || (t.toList == ([110, 111] : List UInt8))) := by
  by_cases c : t.toList = ([121, 101, 115] : List UInt8)
  · rw [if_pos c]; simp [c]
  · rw [if_neg c, show (t.toList == ([121, 101, 115] : List UInt8)) = false by simpa using c, Bool.false_or]
theorem implValue_ev (f : Field) (t : ByteArray) (hf : fine f) (ht : t.size ≤ 281474976710656) : Ev (fun k => impl_Field_isValue.f k f.f0 f.f1 f.f2 f.f3 f.f4 f.f5 f.f6 t) (valueB f t) := by
  unfold impl_Field_isValue.f valueB
  by_cases c1 : f.f1 = 1
  · rw [if_pos c1]
    refine ev_pos c1 (ev_bind0 (parseInt_eq t ht) ?_)
    by_cases c : (parseE t).2 = true
    · exact ev_pos c (ev_bind0 (within_eq2 _ _ _) (ev_now (by rw [c, Bool.true_and])))
    · exact ev_neg c (ev_now (by rw [Bool.not_eq_true] at c; rw [c, Bool.false_and]))
  rw [if_neg c1]
  refine ev_neg c1 ?_
  by_cases c2 : f.f1 = 2
  · rw [if_pos c2]
    exact ev_pos c2 (ev_bind0 (within_eq2 _ _ _) (ev_now rfl))
  rw [if_neg c2]
  refine ev_neg c2 ?_
  by_cases c3 : f.f1 = 3
  · rw [if_pos c3]
    exact ev_pos c3 (Ev.bind (slicesContainsStr_ev f.f4 t hf.2.1) (ev_now rfl))
  rw [if_neg c3]
  exact ev_neg c3 (ev_of (yes_no t))
theorem specValue_ev (f : Field) (t : ByteArray) (hf : fine f) (hk : 1 ≤ f.f1 ∧ f.f1 ≤ 4) : Ev (fun k => spec_l23Value.f k f.f0 f.f1 f.f2 f.f3 f.f4 f.f5 f.f6 t) (valueB f t) := by
  unfold spec_l23Value.f valueB
  by_cases c1 : f.f1 = 1
  · rw [if_pos c1]
    refine ev_pos c1 (Ev.bind (show Ev (fun k => spec_ParseInt.f k t) (parseE t) from Ev.bind (l1Read_ev t) (ev_now rfl)) ?_)
    by_cases c : (parseE t).2 = true
    · exact ev_pos c (ev_bind0 (l1In_eq _ _ _) (ev_now (by rw [c, Bool.true_and])))
    · exact ev_neg c (ev_now (by rw [Bool.not_eq_true] at c; rw [c, Bool.false_and]))
  rw [if_neg c1]
  refine ev_neg c1 ?_
  by_cases c2 : f.f1 = 2
  · rw [if_pos c2]
    exact ev_pos c2 (ev_bind0 (l1In_eq _ _ _) (ev_now rfl))
  rw [if_neg c2]
  refine ev_neg c2 ?_
  by_cases c3 : f.f1 = 3
  · rw [if_pos c3]
    refine ev_neg (by omega) ?_
    have h := ev_walk (L := fun k i => spec_l23Value.l0 k t i f.f0 f.f1 f.f2 f.f3 f.f4 f.f5 f.f6) (G := fun i r => r.any (fun x => x.toList == t.toList)) f.f4 (Ev.step (fun k => rfl) (ev_neg (by omega) (ev_now rfl))) ?step
    case step =>
      intro i x r hi hd hx hk
      refine Ev.step (fun k => rfl) (ev_pos (by omega) (ev_pos (by omega) ?_))
      simp only [rdOf, Int.toNat_natCast, hx]
      by_cases c : x.toList = t.toList
      · exact ev_pos c (ev_now (by simp [c]))
      · refine ev_neg c ?_
        rw [wrap_succ hi hf.2.1]
        exact ev_cast hk (by simp [c])
    exact h
  rw [if_neg c3]
  exact ev_pos (by omega) (ev_of (yes_no t))
def stateN (form : List Field) (ans : List Answer) (i : Nat) : Int :=
  let v := rdOf false (visL form ans form.length) (i : Int)
  let a := (look ans (form.getD i zF).f0).isSome
  if v = false ∧ a = true then 3 else if v = true ∧ (form.getD i zF).f5 = true ∧ a = false then 1 else if v = true ∧ a = true ∧ valueB (form.getD i zF) (txtOf ans (form.getD i zF).f0) = false then 2 else 0
def statesL (form : List Field) (ans : List Answer) : Nat → List Int
  | 0 => []
  | i + 1 => statesL form ans i ++ [stateN form ans i]
theorem statesL_length (form : List Field) (ans : List Answer) : ∀ i, (statesL form ans i).length = i
  | 0 => rfl
  | i + 1 => by rw [statesL, List.length_append, statesL_length form ans i, List.length_singleton]
theorem implStates_ev (form : List Field) (ans : List Answer) (V : Valid form ans) (hf : ∀ f ∈ form, fine f) (ha : ∀ a ∈ ans, a.f1.size ≤ 1048576) : Ev (fun k => impl_states.f k form ans) (statesL form ans form.length) := by
  have hlen := V.len
  have hvl := visL_length form ans form.length
  have h := ev_all (L := fun k (s : List Int) i => impl_states.l0 k form ans s (visL form ans form.length) ((visL form ans form.length).length : Int) i) form.length (statesL form ans) (fun _ => true) [] (statesL form ans form.length) (fun _ => Ev.step (fun k => rfl) (ev_neg (by rw [hvl]; omega) (ev_now rfl))) ?h1 (fun i hi _ hc => nomatch hc)
  case h1 =>
    intro i hi _ _ y hy
    have hsl := statesL_length form ans i
    have hfi := hf _ (List.getElem_mem hi)
    rw [← getD_in hi zF] at hfi
    obtain ⟨b, hb, hbe⟩ := answerOf_eq ans (form.getD i zF).f0
    have htx : (txtOf ans (form.getD i zF).f0).size ≤ 1048576 := by
      unfold txtOf
      cases hq : look ans (form.getD i zF).f0 with
      | none => exact Nat.zero_le _
      | some x => exact ha x (List.mem_of_find?_eq_some hq)
    generalize hF : form.getD i zF = F at *
    generalize hT : txtOf ans F.f0 = T at *
    have hgo : ∀ n, n = stateN form ans i → Ev (fun k => impl_states.l0 k form ans (statesL form ans i ++ [n]) (visL form ans form.length) ((visL form ans form.length).length : Int) (wrap64 ((i : Int) + 1))) y := by
      intro n hn
      rw [wrap_succ hi (by omega), hn]
      exact hy
    have hst : stateN form ans i = (if rdOf false (visL form ans form.length) (i : Int) = false ∧ b = true then 3 else if rdOf false (visL form ans form.length) (i : Int) = true ∧ F.f5 = true ∧ b = false then 1 else if rdOf false (visL form ans form.length) (i : Int) = true ∧ b = true ∧ valueB F T = false then 2 else 0) := by
      unfold stateN
      rw [hF, hT, hbe]
    refine Ev.step (fun k => rfl) (ev_pos (by rw [hvl]; omega) (ev_pos (by omega) (ev_pos (by rw [hvl]; omega) (ev_pos (by omega) ?_))))
    simp only [rd_T69, Int.toNat_natCast]
    rw [show form.getD i z69 = F from hF]
    refine ev_bind0 hb ?_
    generalize hV : rdOf false (visL form ans form.length) (i : Int) = v at *
    have hj2 : ∀ q, (v = false → b = false) → q = (v && (F.f5 && !b)) → Ev (fun k => impl_states.j2 k form ans (statesL form ans i) v T b 0 (visL form ans form.length) ((visL form ans form.length).length : Int) (i : Int) q F.f0 F.f1 F.f2 F.f3 F.f4 F.f5 F.f6) y := by
      intro q hvb hq
      subst hq
      refine Ev.step (fun k => rfl) ?_
      simp only [impl_states.j2]
      cases v
      · have := hvb rfl
        subst this
        refine ev_neg (by simp) (ev_neg (by simp) (ev_pos (by omega) (hgo 0 (by rw [hst]; simp))))
      cases b
      · cases h5 : F.f5
        · exact ev_neg (by simp) (ev_pos rfl (ev_neg (by simp) (ev_pos (by omega) (hgo 0 (by rw [hst, h5]; simp)))))
        · exact ev_pos (by simp) (ev_pos (by omega) (hgo 1 (by rw [hst, h5]; simp)))
      · refine ev_neg (by simp) (ev_pos rfl (ev_pos rfl ?_))
        have hval := implValue_ev F T hfi (by omega)
        cases h5 : valueB F T
        · rw [h5] at hval
          exact Ev.bind hval (ev_neg (by simp) (ev_pos (by omega) (hgo 2 (by rw [hst, h5]; simp))))
        · rw [h5] at hval
          exact Ev.bind hval (ev_pos rfl (ev_pos (by omega) (hgo 0 (by rw [hst, h5]; simp))))
    have hj1 : Ev (fun k => impl_states.j1 k form ans (statesL form ans i) v T b 0 (visL form ans form.length) ((visL form ans form.length).length : Int) (i : Int) (!v && b) F.f0 F.f1 F.f2 F.f3 F.f4 F.f5 F.f6) y := by
      refine Ev.step (fun k => rfl) ?_
      simp only [impl_states.j1]
      cases v
      · cases b
        · exact ev_neg (by simp) (ev_neg (by simp) (hj2 false (fun _ => rfl) (by simp)))
        · exact ev_pos (by simp) (ev_pos (by omega) (hgo 3 (by rw [hst]; simp)))
      · refine ev_neg (by simp) (ev_pos rfl ?_)
        cases h5 : F.f5
        · have := hj2 false (fun h => nomatch h) (by rw [h5]; simp)
          rw [h5] at this
          exact ev_neg (by simp) this
        · have := hj2 (!b) (fun h => nomatch h) (by rw [h5]; simp)
          rw [h5] at this
          exact ev_pos rfl this
    cases v
    · exact ev_neg (by simp) hj1
    · exact ev_pos rfl hj1
  unfold impl_states.f
  refine Ev.bind (implVis_ev form ans V) ?_
  rw [if_pos (by rw [all_range]; intro i hi; rfl)] at h
  exact h
theorem specStates_ev (form : List Field) (ans : List Answer) (V : Valid form ans) (hla : ans.length ≤ 9223372036854775807) (hf : ∀ f ∈ form, fine f) : Ev (fun k => spec_l23States.f k form ans) (statesL form ans form.length) := by
  have hlen := V.len
  have hvl := visL_length form ans form.length
  have h := ev_all (L := fun k (s : List Int) i => spec_l23States.l0 k form ans (visL form ans form.length) s i) form.length (statesL form ans) (fun _ => true) [] (statesL form ans form.length) (fun _ => Ev.step (fun k => rfl) (ev_neg (by omega) (ev_now rfl))) ?h1 (fun i hi _ hc => nomatch hc)
  case h1 =>
    intro i hi _ _ y hy
    have hsl := statesL_length form ans i
    have hfi := hf _ (List.getElem_mem hi)
    rw [← getD_in hi zF] at hfi
    have hfB := V.fld i hi
    unfold fieldB at hfB
    simp only [Bool.and_eq_true, decide_eq_true_eq] at hfB
    have hkind := hfB.1.1.2
    have htext := l23Text_ev ans (form.getD i zF).f0 hla
    have hgo : ∀ n, n = stateN form ans i → Ev (fun k => spec_l23States.l0 k form ans (visL form ans form.length) (statesL form ans i ++ [n]) (wrap64 ((i : Int) + 1))) y := by
      intro n hn
      rw [wrap_succ hi (by omega), hn]
      exact hy
    have hrdF : rd_T69 form (i : Int) = form.getD i zF := by unfold rd_T69; rw [Int.toNat_natCast]
    generalize hF : form.getD i zF = F at *
    generalize hT : txtOf ans F.f0 = T at *
    generalize hB : (look ans F.f0).isSome = b at *
    have hst : stateN form ans i = (if rdOf false (visL form ans form.length) (i : Int) = false ∧ b = true then 3 else if rdOf false (visL form ans form.length) (i : Int) = true ∧ F.f5 = true ∧ b = false then 1 else if rdOf false (visL form ans form.length) (i : Int) = true ∧ b = true ∧ valueB F T = false then 2 else 0) := by
      unfold stateN
      rw [hF, hT, hB]
    refine Ev.step (fun k => rfl) (ev_pos (by omega) (ev_pos (by omega) ?_))
    rw [hrdF]
    refine Ev.bind htext (ev_pos (by rw [hvl]; omega) ?_)
    have hj2 : ∀ q, (rdOf false (visL form ans form.length) (i : Int) = false → b = false) → q = (rdOf false (visL form ans form.length) (i : Int) && (F.f5 && !b)) → Ev (fun k => spec_l23States.j2 k form ans (visL form ans form.length) (statesL form ans i) (i : Int) T b q) y := by
      intro q hvb hq
      subst hq
      refine Ev.step (fun k => rfl) ?_
      simp only [spec_l23States.j2]
      rw [hrdF]
      cases hv : rdOf false (visL form ans form.length) (i : Int)
      · have := hvb hv
        subst this
        refine ev_neg (by simp) (ev_pos (by omega) (ev_pos (by rw [hvl]; omega) (ev_neg (by simp) (ev_pos (by omega) (hgo 0 (by rw [hst, hv]; simp))))))
      cases b
      · cases h5 : F.f5
        · exact ev_neg (by simp) (ev_pos (by omega) (ev_pos (by rw [hvl]; omega) (ev_pos rfl (ev_neg (by simp) (ev_pos (by omega) (hgo 0 (by rw [hst, hv, h5]; simp)))))))
        · exact ev_pos (by simp) (ev_pos (by omega) (hgo 1 (by rw [hst, hv, h5]; simp)))
      · refine ev_neg (by simp) (ev_pos (by omega) (ev_pos (by rw [hvl]; omega) (ev_pos rfl (ev_pos rfl (ev_pos (by omega) ?_)))))
        have hval := specValue_ev F T hfi hkind
        cases h5 : valueB F T
        · rw [h5] at hval
          exact Ev.bind hval (ev_neg (by simp) (ev_pos (by omega) (hgo 2 (by rw [hst, hv, h5]; simp))))
        · rw [h5] at hval
          exact Ev.bind hval (ev_pos rfl (ev_pos (by omega) (hgo 0 (by rw [hst, hv, h5]; simp))))
    have hj1 : Ev (fun k => spec_l23States.j1 k form ans (visL form ans form.length) (statesL form ans i) (i : Int) T b (!(rdOf false (visL form ans form.length) (i : Int)) && b)) y := by
      refine Ev.step (fun k => rfl) ?_
      simp only [spec_l23States.j1]
      rw [hrdF]
      cases hv : rdOf false (visL form ans form.length) (i : Int)
      · cases b
        · exact ev_neg (by simp) (ev_pos (by omega) (ev_pos (by rw [hvl]; omega) (ev_neg (by simp) (hj2 false (fun _ => rfl) (by rw [hv]; simp)))))
        · exact ev_pos (by simp) (ev_pos (by omega) (hgo 3 (by rw [hst, hv]; simp)))
      · refine ev_neg (by simp) (ev_pos (by omega) (ev_pos (by rw [hvl]; omega) (ev_pos rfl (ev_pos (by omega) ?_))))
        cases h5 : F.f5
        · exact ev_neg (by simp) (hj2 false (fun h => by rw [hv] at h; cases h) (by rw [h5, hv]; simp))
        · exact ev_pos rfl (hj2 (!b) (fun h => by rw [hv] at h; cases h) (by rw [h5, hv]; simp))
    cases hv : rdOf false (visL form ans form.length) (i : Int)
    · rw [hv] at hj1
      exact ev_neg (by simp) hj1
    · rw [hv] at hj1
      exact ev_pos rfl hj1
  unfold spec_l23States.f
  refine Ev.bind (specVis_ev form ans V hla) ?_
  rw [if_pos (by rw [all_range]; intro i hi; rfl)] at h
  exact h
end Go.Proofs.YtdogpphfofimeaaDoor.X
set_option linter.unusedVariables false
namespace Go.Proofs.YtdogpphfofimeaaDoor.X
open Go.RowKit Go.Proofs.YtdogpphfofimeaaDoorW.PrintWords Go.Proofs.YtdogpphfofimeaaDoor.E
def wt68 (x : S68) : Nat := x.f0.size + (x.f4.length + (x.f4.map (fun y => y.size)).sum) + x.f6.size
def wt76 (x : S76) : Nat := x.f0.size + x.f1.size
end Go.Proofs.YtdogpphfofimeaaDoor.X
set_option linter.unusedVariables false
namespace Go.Proofs.YtdogpphfofimeaaDoor.X
open Go.RowKit Go.Proofs.YtdogpphfofimeaaDoorW.PrintWords Go.Proofs.YtdogpphfofimeaaDoor.E
theorem laws_szStringS_ev (x : List (ByteArray)) (g0 : x.length ≤ 9223372036854775807) (g1 : ∀ y ∈ x, (y.size ≤ 9223372036854775807)) (left : Int) (h0 : 0 ≤ left) (h1 : left ≤ 4611686018427387904) :
    Ev (fun k => laws_szStringS.f k x left) (if (((x.length + (x.map (fun y => y.size)).sum) : Nat) : Int) ≤ left then left - (((x.length + (x.map (fun y => y.size)).sum) : Nat) : Int) else -1) := by
  unfold laws_szStringS.f
  have e0 : wrap64 (left - ((x.length : Nat) : Int)) = left - ((x.length : Nat) : Int) := wrap_id (by omega) (by omega)
  simp only [e0]
  by_cases c : ((x.length : Nat) : Int) ≤ left
  case neg => exact ev_pos (by omega) (ev_now (by first | rfl | rw [if_neg (by omega)]))
  refine ev_neg (by omega) ?_
  have h := ev_sz (L := fun k l i => laws_szStringS.l0 k x l i) x (fun y => y.size) (fun l => Ev.step (fun k => rfl) (ev_neg (by omega) (ev_now rfl))) ?step (left - ((x.length : Nat) : Int)) (by omega) (by omega)
  case step =>
    intro l i y r l0 l1 hi hm hd hy hn
    refine Ev.step (fun k => rfl) (ev_pos (by omega) (ev_pos (by omega) ?_))
    simp only [rdOf, Int.toNat_natCast, hd]
    have hg := g1 y hm
    have e1 : wrap64 (l - ((y.size : Nat) : Int)) = l - ((y.size : Nat) : Int) := wrap_id (by omega) (by omega)
    simp only [e1]
    by_cases c1 : ((y.size : Nat) : Int) ≤ l
    case neg => exact ev_pos (by omega) (ev_now (hn c1).symm)
    refine ev_neg (by omega) ?_
    rw [wrap_succ hi (by omega)]
    exact hy c1
  refine ev_cast h ?_
  by_cases c2 : (((x.map (fun y => y.size)).sum : Nat) : Int) ≤ left - ((x.length : Nat) : Int)
  · rw [if_pos c2, if_pos (by omega)]; omega
  · rw [if_neg c2, if_neg (by omega)]
end Go.Proofs.YtdogpphfofimeaaDoor.X
set_option linter.unusedVariables false
namespace Go.Proofs.YtdogpphfofimeaaDoor.X
open Go.RowKit Go.Proofs.YtdogpphfofimeaaDoorW.PrintWords Go.Proofs.YtdogpphfofimeaaDoor.E
theorem laws_szField_ev (x : S68) (g0 : x.f0.size ≤ 9223372036854775807) (g1 : x.f4.length ≤ 9223372036854775807) (g2 : ∀ y ∈ x.f4, (y.size ≤ 9223372036854775807)) (g3 : x.f6.size ≤ 9223372036854775807) (left : Int) (h0 : 0 ≤ left) (h1 : left ≤ 4611686018427387904) :
    Ev (fun k => laws_szField.f k (x.f0) (x.f1) (x.f2) (x.f3) (x.f4) (x.f5) (x.f6) left) (if (((wt68 x) : Nat) : Int) ≤ left then left - (((wt68 x) : Nat) : Int) else -1) := by
  unfold laws_szField.f
  unfold wt68
  have e0 : wrap64 (left - ((x.f0.size : Nat) : Int)) = left - ((x.f0.size : Nat) : Int) := wrap_id (by omega) (by omega)
  simp only [e0]
  by_cases c0 : ((x.f0.size : Nat) : Int) ≤ left
  case neg =>
    exact ev_pos (by omega) (ev_now (by first | rfl | rw [if_neg (by omega)]))
  refine ev_neg (by omega) ?_
  refine Ev.bind (laws_szStringS_ev _ (by assumption) (by assumption) _ (by omega) (by omega)) ?_
  by_cases c4 : (((x.f4.length + (x.f4.map (fun y => y.size)).sum) : Nat) : Int) ≤ (left - ((x.f0.size : Nat) : Int))
  case neg =>
    rw [if_neg c4]
    exact ev_pos (by omega) (ev_now (by first | rfl | rw [if_neg (by omega)]))
  rw [if_pos c4]
  refine ev_neg (by omega) ?_
  have e6 : wrap64 (((left - ((x.f0.size : Nat) : Int)) - (((x.f4.length + (x.f4.map (fun y => y.size)).sum) : Nat) : Int)) - ((x.f6.size : Nat) : Int)) = ((left - ((x.f0.size : Nat) : Int)) - (((x.f4.length + (x.f4.map (fun y => y.size)).sum) : Nat) : Int)) - ((x.f6.size : Nat) : Int) := wrap_id (by omega) (by omega)
  simp only [e6]
  by_cases c6 : ((x.f6.size : Nat) : Int) ≤ ((left - ((x.f0.size : Nat) : Int)) - (((x.f4.length + (x.f4.map (fun y => y.size)).sum) : Nat) : Int))
  case neg =>
    exact ev_pos (by omega) (ev_now (by first | rfl | rw [if_neg (by omega)]))
  refine ev_neg (by omega) ?_
  exact ev_now (by first | rfl | omega | (rw [if_pos (by omega)]; omega))
end Go.Proofs.YtdogpphfofimeaaDoor.X
set_option linter.unusedVariables false
namespace Go.Proofs.YtdogpphfofimeaaDoor.X
open Go.RowKit Go.Proofs.YtdogpphfofimeaaDoorW.PrintWords Go.Proofs.YtdogpphfofimeaaDoor.E
theorem laws_szFieldS_ev (x : List (S68)) (g0 : x.length ≤ 9223372036854775807) (g1 : ∀ y ∈ x, (y.f0.size ≤ 9223372036854775807) ∧ (y.f4.length ≤ 9223372036854775807) ∧ (∀ z ∈ y.f4, (z.size ≤ 9223372036854775807)) ∧ (y.f6.size ≤ 9223372036854775807)) (left : Int) (h0 : 0 ≤ left) (h1 : left ≤ 4611686018427387904) :
    Ev (fun k => laws_szFieldS.f k x left) (if (((x.length + (x.map (fun y => (wt68 y))).sum) : Nat) : Int) ≤ left then left - (((x.length + (x.map (fun y => (wt68 y))).sum) : Nat) : Int) else -1) := by
  unfold laws_szFieldS.f
  have e0 : wrap64 (left - ((x.length : Nat) : Int)) = left - ((x.length : Nat) : Int) := wrap_id (by omega) (by omega)
  simp only [e0]
  by_cases c : ((x.length : Nat) : Int) ≤ left
  case neg => exact ev_pos (by omega) (ev_now (by first | rfl | rw [if_neg (by omega)]))
  refine ev_neg (by omega) ?_
  have h := ev_sz (L := fun k l i => laws_szFieldS.l0 k x l i) x (fun y => (wt68 y)) (fun l => Ev.step (fun k => rfl) (ev_neg (by omega) (ev_now rfl))) ?step (left - ((x.length : Nat) : Int)) (by omega) (by omega)
  case step =>
    intro l i y r l0 l1 hi hm hd hy hn
    refine Ev.step (fun k => rfl) (ev_pos (by omega) (ev_pos (by omega) ?_))
    simp only [rd_T68, Int.toNat_natCast, hd]
    have hg := g1 y hm
    obtain ⟨q0, q1, q2, q3⟩ := hg
    refine Ev.bind (laws_szField_ev y (by assumption) (by assumption) (by assumption) (by assumption) l l0 l1) ?_
    by_cases c1 : (((wt68 y) : Nat) : Int) ≤ l
    case neg => rw [if_neg c1]; exact ev_pos (by omega) (ev_now (hn c1).symm)
    rw [if_pos c1]
    refine ev_neg (by omega) ?_
    rw [wrap_succ hi (by omega)]
    exact hy c1
  refine ev_cast h ?_
  by_cases c2 : (((x.map (fun y => (wt68 y))).sum : Nat) : Int) ≤ left - ((x.length : Nat) : Int)
  · rw [if_pos c2, if_pos (by omega)]; omega
  · rw [if_neg c2, if_neg (by omega)]
end Go.Proofs.YtdogpphfofimeaaDoor.X
set_option linter.unusedVariables false
namespace Go.Proofs.YtdogpphfofimeaaDoor.X
open Go.RowKit Go.Proofs.YtdogpphfofimeaaDoorW.PrintWords Go.Proofs.YtdogpphfofimeaaDoor.E
theorem laws_toStringS_ev (x : List (ByteArray)) (hb : (x.length + (x.map (fun y => y.size)).sum) ≤ 1048576) : Ev (fun k => laws_toStringS.f k x) (x) := by
  unfold laws_toStringS.f
  refine ev_pos (by omega) (ev_pos (by simp only [Int.toNat_natCast]; omega) ?_)
  simp only [Int.toNat_natCast]
  refine ev_cast (r := x.map id) ?_ (List.map_id x)
  refine ev_fill (L := fun k o i => laws_toStringS.l0 k x o i) x id _ (fun o => Ev.step (fun k => rfl) (ev_neg (by omega) (ev_now rfl))) ?_
  intro o i y r hi hx hd hl hk
  refine Ev.step (fun k => rfl) (ev_pos (by omega) (ev_pos (by omega) ?_))
  simp only [rdOf, Int.toNat_natCast, hd]
  refine ev_pos (by omega) ?_
  rw [wrap_succ hi (by omega)]
  exact hk
end Go.Proofs.YtdogpphfofimeaaDoor.X
set_option linter.unusedVariables false
namespace Go.Proofs.YtdogpphfofimeaaDoor.X
open Go.RowKit Go.Proofs.YtdogpphfofimeaaDoorW.PrintWords Go.Proofs.YtdogpphfofimeaaDoor.E
def conv68 (x : S68) : S69 := ⟨x.f0, x.f1, x.f2, x.f3, x.f4, x.f5, x.f6⟩
theorem laws_toField_ev (x : S68) (hb : (wt68 x) ≤ 1048576) : Ev (fun k => laws_toField.f k (x.f0) (x.f1) (x.f2) (x.f3) (x.f4) (x.f5) (x.f6)) ((conv68 x).f0, (conv68 x).f1, (conv68 x).f2, (conv68 x).f3, (conv68 x).f4, (conv68 x).f5, (conv68 x).f6) := by
  unfold laws_toField.f
  unfold wt68 at hb
  refine Ev.bind (laws_toStringS_ev x.f4 (by omega)) ?_
  exact ev_now rfl
end Go.Proofs.YtdogpphfofimeaaDoor.X
set_option linter.unusedVariables false
namespace Go.Proofs.YtdogpphfofimeaaDoor.X
open Go.RowKit Go.Proofs.YtdogpphfofimeaaDoorW.PrintWords Go.Proofs.YtdogpphfofimeaaDoor.E
theorem laws_toFieldS_ev (x : List (S68)) (hb : (x.length + (x.map (fun y => (wt68 y))).sum) ≤ 1048576) : Ev (fun k => laws_toFieldS.f k x) (x.map conv68) := by
  unfold laws_toFieldS.f
  refine ev_pos (by omega) (ev_pos (by simp only [Int.toNat_natCast]; omega) ?_)
  simp only [Int.toNat_natCast]
  refine ev_fill (L := fun k o i => laws_toFieldS.l0 k x o i) x conv68 _ (fun o => Ev.step (fun k => rfl) (ev_neg (by omega) (ev_now rfl))) ?_
  intro o i y r hi hx hd hl hk
  refine Ev.step (fun k => rfl) (ev_pos (by omega) (ev_pos (by omega) ?_))
  simp only [rd_T68, Int.toNat_natCast, hd]
  have hq := le_sum (f := fun y => (wt68 y)) (List.mem_of_getElem? hx)
  refine Ev.bind (laws_toField_ev y (by omega)) ?_
  refine ev_pos (by omega) ?_
  rw [wrap_succ hi (by omega)]
  exact hk
end Go.Proofs.YtdogpphfofimeaaDoor.X
set_option linter.unusedVariables false
namespace Go.Proofs.YtdogpphfofimeaaDoor.X
open Go.RowKit Go.Proofs.YtdogpphfofimeaaDoorW.PrintWords Go.Proofs.YtdogpphfofimeaaDoor.E
theorem laws_eqStringS_ev (x : List (ByteArray)) (hl0 : x.length ≤ 9223372036854775807) : Ev (fun k => laws_eqStringS.f k x x) true := by
  unfold laws_eqStringS.f
  refine ev_pos rfl ?_
  refine ev_same (L := fun k i => laws_eqStringS.l0 k x x i) x.length (Ev.step (fun k => rfl) (ev_neg (by omega) (ev_now rfl))) ?_
  intro i hi hk
  refine Ev.step (fun k => rfl) (ev_pos (by omega) (ev_pos (by omega) (ev_pos (by omega) ?_)))
  refine ev_pos rfl ?_
  rw [wrap_succ hi (by omega)]
  exact hk
end Go.Proofs.YtdogpphfofimeaaDoor.X
set_option linter.unusedVariables false
namespace Go.Proofs.YtdogpphfofimeaaDoor.X
open Go.RowKit Go.Proofs.YtdogpphfofimeaaDoorW.PrintWords Go.Proofs.YtdogpphfofimeaaDoor.E
theorem laws_eqField_ev (x : S69) (hl0 : x.f4.length ≤ 9223372036854775807) : Ev (fun k => laws_eqField.f k (x.f0) (x.f1) (x.f2) (x.f3) (x.f4) (x.f5) (x.f6) (x.f0) (x.f1) (x.f2) (x.f3) (x.f4) (x.f5) (x.f6)) true := by
  unfold laws_eqField.f
  repeat' (first | exact ev_now rfl | refine ev_pos rfl ?_ | refine ev_neg (by simp) ?_ | refine Ev.bind (laws_eqStringS_ev _ (by assumption)) ?_)
end Go.Proofs.YtdogpphfofimeaaDoor.X
set_option linter.unusedVariables false
namespace Go.Proofs.YtdogpphfofimeaaDoor.X
open Go.RowKit Go.Proofs.YtdogpphfofimeaaDoorW.PrintWords Go.Proofs.YtdogpphfofimeaaDoor.E
theorem laws_eqFieldS_ev (x : List (S69)) (hl0 : x.length ≤ 9223372036854775807) (hl1 : ∀ y ∈ x, (y.f4.length ≤ 9223372036854775807)) : Ev (fun k => laws_eqFieldS.f k x x) true := by
  unfold laws_eqFieldS.f
  refine ev_pos rfl ?_
  refine ev_same (L := fun k i => laws_eqFieldS.l0 k x x i) x.length (Ev.step (fun k => rfl) (ev_neg (by omega) (ev_now rfl))) ?_
  intro i hi hk
  refine Ev.step (fun k => rfl) (ev_pos (by omega) (ev_pos (by omega) (ev_pos (by omega) ?_)))
  have hy := hl1 _ (List.getElem_mem hi)
  have hr : rd_T69 x (i : Int) = x[i] := by simp [rd_T69, List.getD_eq_getElem?_getD, List.getElem?_eq_getElem hi]
  rw [hr]
  refine Ev.bind (laws_eqField_ev _ (by first | exact hy | exact hy)) ?_
  refine ev_pos rfl ?_
  rw [wrap_succ hi (by omega)]
  exact hk
end Go.Proofs.YtdogpphfofimeaaDoor.X
set_option linter.unusedVariables false
namespace Go.Proofs.YtdogpphfofimeaaDoor.X
open Go.RowKit Go.Proofs.YtdogpphfofimeaaDoorW.PrintWords Go.Proofs.YtdogpphfofimeaaDoor.E
theorem laws_szAnswer_ev (x : S76) (g0 : x.f0.size ≤ 9223372036854775807) (g1 : x.f1.size ≤ 9223372036854775807) (left : Int) (h0 : 0 ≤ left) (h1 : left ≤ 4611686018427387904) :
    Ev (fun k => laws_szAnswer.f (x.f0) (x.f1) left) (if (((wt76 x) : Nat) : Int) ≤ left then left - (((wt76 x) : Nat) : Int) else -1) := by
  unfold laws_szAnswer.f
  unfold wt76
  have e0 : wrap64 (left - ((x.f0.size : Nat) : Int)) = left - ((x.f0.size : Nat) : Int) := wrap_id (by omega) (by omega)
  simp only [e0]
  by_cases c0 : ((x.f0.size : Nat) : Int) ≤ left
  case neg =>
    exact ev_pos (by omega) (ev_now (by first | rfl | rw [if_neg (by omega)]))
  refine ev_neg (by omega) ?_
  have e1 : wrap64 ((left - ((x.f0.size : Nat) : Int)) - ((x.f1.size : Nat) : Int)) = (left - ((x.f0.size : Nat) : Int)) - ((x.f1.size : Nat) : Int) := wrap_id (by omega) (by omega)
  simp only [e1]
  by_cases c1 : ((x.f1.size : Nat) : Int) ≤ (left - ((x.f0.size : Nat) : Int))
  case neg =>
    exact ev_pos (by omega) (ev_now (by first | rfl | rw [if_neg (by omega)]))
  refine ev_neg (by omega) ?_
  exact ev_now (by first | rfl | omega | (rw [if_pos (by omega)]; omega))
end Go.Proofs.YtdogpphfofimeaaDoor.X
set_option linter.unusedVariables false
namespace Go.Proofs.YtdogpphfofimeaaDoor.X
open Go.RowKit Go.Proofs.YtdogpphfofimeaaDoorW.PrintWords Go.Proofs.YtdogpphfofimeaaDoor.E
theorem laws_szAnswerS_ev (x : List (S76)) (g0 : x.length ≤ 9223372036854775807) (g1 : ∀ y ∈ x, (y.f0.size ≤ 9223372036854775807) ∧ (y.f1.size ≤ 9223372036854775807)) (left : Int) (h0 : 0 ≤ left) (h1 : left ≤ 4611686018427387904) :
    Ev (fun k => laws_szAnswerS.f k x left) (if (((x.length + (x.map (fun y => (wt76 y))).sum) : Nat) : Int) ≤ left then left - (((x.length + (x.map (fun y => (wt76 y))).sum) : Nat) : Int) else -1) := by
  unfold laws_szAnswerS.f
  have e0 : wrap64 (left - ((x.length : Nat) : Int)) = left - ((x.length : Nat) : Int) := wrap_id (by omega) (by omega)
  simp only [e0]
  by_cases c : ((x.length : Nat) : Int) ≤ left
  case neg => exact ev_pos (by omega) (ev_now (by first | rfl | rw [if_neg (by omega)]))
  refine ev_neg (by omega) ?_
  have h := ev_sz (L := fun k l i => laws_szAnswerS.l0 k x l i) x (fun y => (wt76 y)) (fun l => Ev.step (fun k => rfl) (ev_neg (by omega) (ev_now rfl))) ?step (left - ((x.length : Nat) : Int)) (by omega) (by omega)
  case step =>
    intro l i y r l0 l1 hi hm hd hy hn
    refine Ev.step (fun k => rfl) (ev_pos (by omega) (ev_pos (by omega) ?_))
    simp only [rd_T76, Int.toNat_natCast, hd]
    have hg := g1 y hm
    obtain ⟨q0, q1⟩ := hg
    refine Ev.bind (laws_szAnswer_ev y (by assumption) (by assumption) l l0 l1) ?_
    by_cases c1 : (((wt76 y) : Nat) : Int) ≤ l
    case neg => rw [if_neg c1]; exact ev_pos (by omega) (ev_now (hn c1).symm)
    rw [if_pos c1]
    refine ev_neg (by omega) ?_
    rw [wrap_succ hi (by omega)]
    exact hy c1
  refine ev_cast h ?_
  by_cases c2 : (((x.map (fun y => (wt76 y))).sum : Nat) : Int) ≤ left - ((x.length : Nat) : Int)
  · rw [if_pos c2, if_pos (by omega)]; omega
  · rw [if_neg c2, if_neg (by omega)]
end Go.Proofs.YtdogpphfofimeaaDoor.X
set_option linter.unusedVariables false
namespace Go.Proofs.YtdogpphfofimeaaDoor.X
open Go.RowKit Go.Proofs.YtdogpphfofimeaaDoorW.PrintWords Go.Proofs.YtdogpphfofimeaaDoor.E
def conv76 (x : S76) : S58 := ⟨x.f0, x.f1⟩
theorem laws_toAnswer_ev (x : S76) (hb : (wt76 x) ≤ 1048576) : Ev (fun k => laws_toAnswer.f (x.f0) (x.f1)) ((conv76 x).f0, (conv76 x).f1) := by
  unfold laws_toAnswer.f
  unfold wt76 at hb
  exact ev_now rfl
end Go.Proofs.YtdogpphfofimeaaDoor.X
set_option linter.unusedVariables false
namespace Go.Proofs.YtdogpphfofimeaaDoor.X
open Go.RowKit Go.Proofs.YtdogpphfofimeaaDoorW.PrintWords Go.Proofs.YtdogpphfofimeaaDoor.E
theorem laws_toAnswerS_ev (x : List (S76)) (hb : (x.length + (x.map (fun y => (wt76 y))).sum) ≤ 1048576) : Ev (fun k => laws_toAnswerS.f k x) (x.map conv76) := by
  unfold laws_toAnswerS.f
  refine ev_pos (by omega) (ev_pos (by simp only [Int.toNat_natCast]; omega) ?_)
  simp only [Int.toNat_natCast]
  refine ev_fill (L := fun k o i => laws_toAnswerS.l0 k x o i) x conv76 _ (fun o => Ev.step (fun k => rfl) (ev_neg (by omega) (ev_now rfl))) ?_
  intro o i y r hi hx hd hl hk
  refine Ev.step (fun k => rfl) (ev_pos (by omega) (ev_pos (by omega) ?_))
  simp only [rd_T76, Int.toNat_natCast, hd]
  have hq := le_sum (f := fun y => (wt76 y)) (List.mem_of_getElem? hx)
  refine Ev.bind (laws_toAnswer_ev y (by omega)) ?_
  refine ev_pos (by omega) ?_
  rw [wrap_succ hi (by omega)]
  exact hk
end Go.Proofs.YtdogpphfofimeaaDoor.X
set_option linter.unusedVariables false
namespace Go.Proofs.YtdogpphfofimeaaDoor.X
open Go.RowKit Go.Proofs.YtdogpphfofimeaaDoorW.PrintWords Go.Proofs.YtdogpphfofimeaaDoor.E
theorem laws_eqAnswer_ev (x : S58) : Ev (fun k => laws_eqAnswer.f (x.f0) (x.f1) (x.f0) (x.f1)) true := by
  unfold laws_eqAnswer.f
  repeat' (first | exact ev_now rfl | refine ev_pos rfl ?_ | refine ev_neg (by simp) ?_)
end Go.Proofs.YtdogpphfofimeaaDoor.X
set_option linter.unusedVariables false
namespace Go.Proofs.YtdogpphfofimeaaDoor.X
open Go.RowKit Go.Proofs.YtdogpphfofimeaaDoorW.PrintWords Go.Proofs.YtdogpphfofimeaaDoor.E
theorem laws_eqAnswerS_ev (x : List (S58)) (hl0 : x.length ≤ 9223372036854775807) : Ev (fun k => laws_eqAnswerS.f k x x) true := by
  unfold laws_eqAnswerS.f
  refine ev_pos rfl ?_
  refine ev_same (L := fun k i => laws_eqAnswerS.l0 k x x i) x.length (Ev.step (fun k => rfl) (ev_neg (by omega) (ev_now rfl))) ?_
  intro i hi hk
  refine Ev.step (fun k => rfl) (ev_pos (by omega) (ev_pos (by omega) (ev_pos (by omega) ?_)))
  refine Ev.bind (laws_eqAnswer_ev _) ?_
  refine ev_pos rfl ?_
  rw [wrap_succ hi (by omega)]
  exact hk
end Go.Proofs.YtdogpphfofimeaaDoor.X
set_option linter.unusedVariables false
set_option linter.unusedSimpArgs false
namespace Go.Proofs.YtdogpphfofimeaaDoor.Pure
open Go.RowKit Go.Proofs.YtdogpphfofimeaaDoor.X Go.Proofs.YtdogpphfofimeaaDoorW.PrintWords Go.Proofs.YtdogpphfofimeaaDoor.E
theorem any_ne (L : List Int) : (L.any (fun x => x != 0)) = !((List.range L.length).all fun i => decide (L.getD i 0 = 0)) := by
  rw [Bool.eq_iff_iff, List.any_eq_true, Bool.not_eq_true', ← Bool.not_eq_true, all_range]
  constructor
  · rintro ⟨x, hx, hn⟩ h
    obtain ⟨i, hi, rfl⟩ := List.getElem_of_mem hx
    have := of_decide_eq_true (h i hi)
    rw [getD_in hi] at this
    simp [this] at hn
  · intro h
    apply Classical.byContradiction
    intro hn
    apply h
    intro i hi
    apply decide_eq_true
    rw [getD_in hi]
    apply Classical.byContradiction
    intro he
    exact hn ⟨_, List.getElem_mem hi, by simpa using he⟩
theorem cmp_both (form : List X.Field) (ans : List X.Answer) (hl : form.length ≤ 9223372036854775807) (hf : ∀ f ∈ form, fine f) (hla : ans.length ≤ 9223372036854775807) (ha : ∀ a ∈ ans, fineA a) (hs : ∀ a ∈ ans, a.f1.size ≤ 1048576) :
    ∃ (a b : Bool), Ev (fun k => spec_IsComplete.f k form ans) (a, b) ∧ Ev (fun k => impl_IsComplete.f k form ans) (a, b) := by
  have h1 := specAnswers_ev form ans hl hf hla ha
  have h2 := implAnswers_ev form ans hl hf hla ha
  cases hv : ansB form ans
  · rw [hv] at h1 h2
    exact ⟨false, false, Ev.bind h1 (ev_neg (by simp) (ev_now rfl)), Ev.bind h2 (ev_neg (by simp) (ev_now rfl))⟩
  rw [hv] at h1 h2
  have V := valid_of hv
  have hlen := V.len
  have hsl := statesL_length form ans form.length
  refine ⟨!((statesL form ans form.length).any (fun x => x != 0)), true, Ev.bind h1 (ev_pos rfl (Ev.bind (specStates_ev form ans V hla hf) ?_)), Ev.bind h2 (ev_pos rfl (Ev.bind (implStates_ev form ans V hf hs) (ev_now rfl)))⟩
  generalize statesL form ans form.length = L at *
  have h := ev_all0 (L := fun k i => spec_IsComplete.l0 k L i) L.length (fun i => decide (L.getD i 0 = 0)) (false, true) (true, true) (fun _ => Ev.step (fun k => rfl) (ev_neg (by omega) (ev_now rfl))) ?h1 ?h2
  case h1 =>
    intro i hi _ hc y hy
    refine Ev.step (fun k => rfl) (ev_pos (by omega) (ev_pos (by omega) (ev_pos (of_decide_eq_true hc) ?_)))
    rw [wrap_succ hi (by omega)]
    exact hy
  case h2 =>
    intro i hi _ hc
    exact Ev.step (fun k => rfl) (ev_pos (by omega) (ev_pos (by omega) (ev_neg (of_decide_eq_false hc) (ev_now rfl))))
  refine ev_cast h ?_
  rw [any_ne, Bool.not_not]
  cases (List.range L.length).all fun i => decide (L.getD i 0 = 0) <;> rfl
theorem wt_one {α : Type} (g : α → Nat) : ∀ (l : List α) (y : α), y ∈ l → g y ≤ (l.map g).sum
  | [], y, h => nomatch h
  | a :: l, y, h => by
    rw [List.map_cons, List.sum_cons]
    rcases List.mem_cons.1 h with rfl | h
    · omega
    · have := wt_one g l y h
      omega
theorem FnExactIsComplete : PureFnExactIsComplete := by
  intro form ans hf ha
  have hsz : ∀ y ∈ form, (y.f0.size ≤ 9223372036854775807) ∧ (y.f4.length ≤ 9223372036854775807) ∧ (∀ z ∈ y.f4, (z.size ≤ 9223372036854775807)) ∧ (y.f6.size ≤ 9223372036854775807) := by
    intro y hy
    have g := hf.2 y hy
    exact ⟨g.1, g.2.2.2.2.1.1, g.2.2.2.2.1.2, g.2.2.2.2.2.2⟩
  have hsa : ∀ y ∈ ans, (y.f0.size ≤ 9223372036854775807) ∧ (y.f1.size ≤ 9223372036854775807) := fun y hy => ha.2 y hy
  unfold laws_FnExactIsComplete.f
  refine ev_get (Ev.bind (laws_szFieldS_ev form hf.1 hsz 1048576 (by omega) (by omega)) ?_)
  by_cases c : (((form.length + (form.map (fun y => wt68 y)).sum : Nat)) : Int) ≤ 1048576
  case neg => rw [if_neg c]; exact ev_pos (by omega) (ev_now rfl)
  rw [if_pos c]
  refine ev_neg (by omega) (Ev.bind (laws_szAnswerS_ev ans ha.1 hsa _ (by omega) (by omega)) ?_)
  by_cases c2 : (((ans.length + (ans.map (fun y => wt76 y)).sum : Nat)) : Int) ≤ 1048576 - (((form.length + (form.map (fun y => wt68 y)).sum : Nat)) : Int)
  case neg => rw [if_neg c2]; exact ev_pos (by omega) (ev_now rfl)
  rw [if_pos c2]
  refine ev_neg (by omega) ?_
  have hto := laws_toFieldS_ev form (by omega)
  have hta := laws_toAnswerS_ev ans (by omega)
  have hl : (form.map conv68).length ≤ 9223372036854775807 := by rw [List.length_map]; exact hf.1
  have hla : (ans.map conv76).length ≤ 9223372036854775807 := by rw [List.length_map]; exact ha.1
  have hll : (ans.map conv76).length = ans.length := List.length_map ..
  have hfine : ∀ f ∈ form.map conv68, fine f := by
    intro f hf'
    obtain ⟨y, hy, rfl⟩ := List.mem_map.1 hf'
    have g := hsz y hy
    exact ⟨g.1, g.2.1, g.2.2.1, g.2.2.2⟩
  have hfineA : ∀ f ∈ ans.map conv76, fineA f := by
    intro f hf'
    obtain ⟨y, hy, rfl⟩ := List.mem_map.1 hf'
    exact hsa y hy
  have hsmall : ∀ a ∈ ans.map conv76, a.f1.size ≤ 1048576 := by
    intro f hf'
    obtain ⟨y, hy, rfl⟩ := List.mem_map.1 hf'
    have g := wt_one (fun y => wt76 y) ans y hy
    have g2 : y.f1.size ≤ wt76 y := by unfold wt76; omega
    show y.f1.size ≤ 1048576
    omega
  obtain ⟨a, b, g1, g2⟩ := cmp_both (form.map conv68) (ans.map conv76) hl hfine hla hfineA hsmall
  have heF := laws_eqFieldS_ev _ hl (fun f hf' => (hfine f hf').2.1)
  have heA := laws_eqAnswerS_ev _ hla
  refine Ev.bind hto (Ev.bind hta (Ev.bind g1 (Ev.bind hto (Ev.bind hta (Ev.bind g2 (ev_neg (by simp) ?_))))))
  refine Ev.step (fun k => rfl) (ev_neg (by simp) (Ev.bind hto (Ev.bind heF (ev_pos rfl (Ev.bind hta (Ev.bind heA (ev_pos rfl (ev_now rfl))))))))
end Go.Proofs.YtdogpphfofimeaaDoor.Pure
namespace Go.Proofs.YtdogpphfofimeaaDoor.fnExactIsComplete
open Go.ChangeShapes Go.WideShapes Go.ChangeAt Go.RowKit Go.Joins Go.Proofs.YtdogpphfofimeaaDoorW.PrintWords Go.Proofs.YtdogpphfofimeaaDoor.Open Go.Proofs.YtdogpphfofimeaaDoor.X
open Go.ChangeMaps (open_string shut_string)
set_option linter.unusedVariables false
theorem own : ownKnob Tryd.prog.godebug = none := by kernel_rfl
def laid : List (String × DataW Unit) := [("math/bits.deBruijn32tab", Rows.laid_math_bits_deBruijn32tab), ("math/bits.deBruijn64tab", Rows.laid_math_bits_deBruijn64tab), ("internal/strconv.uint64pow10", Rows.laid_internal_strconv_uint64pow10), ("strconv.ErrRange", Rows.laid_strconv_ErrRange), ("strconv.ErrSyntax", Rows.laid_strconv_ErrSyntax)]
theorem door_met (os : Os) (args : Array Value) : laidMetH Tryd.prog laid ((World.doorLaid Tryd.prog 72 os).forCall (fun _ _ => 0) ⟨#[], args, []⟩).memory :=
  laidMetH_of_parts3 (fuel := 8) (laidMet_of_run' 8 (by kernel_rfl) (by kernel_rfl)) (by kernel_rfl) (by kernel_rfl)
theorem gTab : Tryd.prog.globalNamed "internal/strconv.uint64pow10" = some 1 := by kernel_rfl
theorem gTabType : (Tryd.prog.globals[1]?).map (·.type) = some 154 := by kernel_rfl
theorem cellsT : Tryd.prog.cellsOf 154 = 20 := by kernel_rfl
theorem cellsE : Tryd.prog.cellsOf 85 = 1 := by kernel_rfl
theorem only : laid.filter (fun x => x.1 == "internal/strconv.uint64pow10") = [("internal/strconv.uint64pow10", Lib.tabData .u64 Lib.pow10Tab)] := by kernel_rfl
theorem tableT {W : World} (h : laidMetH Tryd.prog laid W) : GT W := by
  have h2 := h.filter (fun x => x.1 == "internal/strconv.uint64pow10")
  rw [only] at h2
  rw [MakeChecks.laidMetH_plain _ _ _ (by kernel_rfl)] at h2
  exact Lib.tabIs_of_head (rest := []) gTab gTabType Tryd.underlying154 Tryd.underlying85 cellsE cellsT h2
theorem star : "*" ++ "errors.errorString" = "*errors.errorString" := by decide
theorem rowE (u : TypeId) (h : Tryd.prog.typeName? 3 u = some "*errors.errorString") : u = 172 := typeName_ptr_named (nm := "errors.errorString") (by rw [star]; kernel_rfl) (by kernel_rfl) (by decide) u (by rw [star]; exact h)
theorem gErrSyntax : Tryd.prog.globalNamed "strconv.ErrSyntax" = some 4 := by kernel_rfl
theorem onlyErrSyntax : laid.filter (fun x => x.1 == "strconv.ErrSyntax") = [("strconv.ErrSyntax", Rows.laid_strconv_ErrSyntax)] := by kernel_rfl
theorem cellErrSyntax {W : World} (h : laidMetH Tryd.prog laid W) : ∃ t v, W.cell? ⟨4, 0, none⟩ = some (.iface t v) := by
  have h2 := h.filter (fun x => x.1 == "strconv.ErrSyntax")
  rw [onlyErrSyntax] at h2
  rw [MakeChecks.laidMetH_plain _ _ _ (by kernel_rfl)] at h2
  unfold Rows.laid_strconv_ErrSyntax at h2
  obtain ⟨a, s, hv, _, _, _⟩ := laid_sentinel h2 gErrSyntax (by kernel_rfl : (Tryd.prog.globals[4]?).map (·.type) = some 124) Tryd.underlying124 rowE Tryd.underlying172 Tryd.underlying174 rfl rfl Tryd.underlying9 (by kernel_rfl : Tryd.prog.cellsOf 174 = 1) (by kernel_rfl : Tryd.prog.cellsOf 9 = 1)
  exact ⟨_, _, World.var?_cell gErrSyntax hv 0⟩
theorem gErrRange : Tryd.prog.globalNamed "strconv.ErrRange" = some 5 := by kernel_rfl
theorem onlyErrRange : laid.filter (fun x => x.1 == "strconv.ErrRange") = [("strconv.ErrRange", Rows.laid_strconv_ErrRange)] := by kernel_rfl
theorem cellErrRange {W : World} (h : laidMetH Tryd.prog laid W) : ∃ t v, W.cell? ⟨5, 0, none⟩ = some (.iface t v) := by
  have h2 := h.filter (fun x => x.1 == "strconv.ErrRange")
  rw [onlyErrRange] at h2
  rw [MakeChecks.laidMetH_plain _ _ _ (by kernel_rfl)] at h2
  unfold Rows.laid_strconv_ErrRange at h2
  obtain ⟨a, s, hv, _, _, _⟩ := laid_sentinel h2 gErrRange (by kernel_rfl : (Tryd.prog.globals[5]?).map (·.type) = some 124) Tryd.underlying124 rowE Tryd.underlying172 Tryd.underlying174 rfl rfl Tryd.underlying9 (by kernel_rfl : Tryd.prog.cellsOf 174 = 1) (by kernel_rfl : Tryd.prog.cellsOf 9 = 1)
  exact ⟨_, _, World.var?_cell gErrRange hv 0⟩
theorem table {W : World} (h : laidMetH Tryd.prog laid W) : GE W := ⟨tableT h, cellErrSyntax h, cellErrRange h⟩
theorem laidOut : laidOutB Tryd.prog = true := by kernel_rfl
set_option maxRecDepth 100000 in
theorem lifted (os : Os) (started : os.Started) (H : Type) (enc : TypeId × Value → H) :
    ReturnsInHanded {} Tryd.checked os 4 .any (fun w args => (Rows.fnExactIsCompleteSpec.pre enc Tryd.prog Tryd.f4 [] false w args ∧ laidMetH Tryd.prog laid w) ∧ sizedMet enc Tryd.prog Tryd.f4 (OpenSpec.ofChange Rows.fnExactIsCompleteSpec) false w args)
      (Rows.fnExactIsCompleteSpec.post enc Tryd.prog Tryd.f4 false true false false) := by
  refine returnsInHanded_of_change_and (C := Tryd.checked) (X := fun w _ => laidMetH Tryd.prog laid w) (fun _ _ _ hh h => h.of_heap hh) own started (by kernel_rfl) Tryd.func4
    (ChangeSpec.witness_shaped (enc := enc) (C := Tryd.checked) (os := os) (X := fun w _ => laidMetH Tryd.prog laid w) false (World.doorLaid Tryd.prog 72 os) #[.slice none 0 0, .slice none 0 0] 8 rfl (World.shaped_of_RefB (by kernel_rfl) (by kernel_rfl)) (by kernel_rfl) (by kernel_rfl) (by kernel_rfl) (door_met os _)) ?_
  intro W base args ds gs before hval0 hW hcnd hsz0 hL _
  have hval : ∀ (j : Nat) t v, Tryd.f4.params[j]? = some t → args[j]? = some v → Value.okWide Tryd.prog W .any base t v := hval0
  have hW' := hW
  obtain ⟨p, q, hA0, hV, rfl, hfz, hnd⟩ := hW
  have hA : DataW.TrodAll enc Tryd.prog W 0 (fun _ => true) true Tryd.f4.params.toList args.toList ds p := hA0
  rw [Tryd.params4] at hA hval
  obtain ⟨v0, vs0, d0, ds0, p0, q0, hargs, rfl, rfl, h0, r0⟩ := trodAll_cons hA
  obtain ⟨v1, vs1, d1, ds1, p1, q1, rfl, rfl, rfl, h1, r1⟩ := trodAll_cons r0
  obtain ⟨rfl, rfl, rfl⟩ := trodAll_nil r1
  obtain rfl : args = #[v0, v1] := by cases args; simp_all
  obtain ⟨rfl, rfl⟩ := trodVars_none hV
  have kk0 := h0
  have lt0 : ∀ x ∈ p0, x.block < W.heap.size := by obtain ⟨m, hm⟩ := kk0; exact DataW.trod_lt m _ _ _ hm
  obtain ⟨A0, c0, a0, rfl, hc0, hr0, g0⟩ := arg_slice op22 (okWide_slice Tryd.underlying22 (hval 0 22 v0 rfl rfl)) h0
  have kk1 := h1
  have lt1 : ∀ x ∈ p1, x.block < W.heap.size := by obtain ⟨m, hm⟩ := kk1; exact DataW.trod_lt m _ _ _ hm
  obtain ⟨A1, c1, a1, rfl, hc1, hr1, g1⟩ := arg_slice op30 (okWide_slice Tryd.underlying30 (hval 1 30 v1 rfl rfl)) h1
  clear hA0 hval0 hsz0
  obtain ⟨k, hk⟩ := Pure.FnExactIsComplete a0 a1 g0 g1
  refine (X.laws_FnExactIsComplete.calls k _ _ a0 _ _ a1 true W hr0 hc0 hr1 hc1 (table hL) hk (Aside0.mk rfl)).mono ?_
  rintro e W' ⟨he, bel0⟩
  have bel : Below W.heap.size W W' := by first | exact bel0 | exact bel0.below
  subst he
  exact ⟨_, rfl, _, _, _, [], _, [], hW', trodAll_mk1 (shut_bool Tryd.underlying4 _), (trodAll_cons_mk (Below.trod laidOut (by kernel_rfl) (of_decide_eq_true (by kernel_rfl)) kk0 bel lt0) (trodAll_cons_mk (Below.trod laidOut (by kernel_rfl) (of_decide_eq_true (by kernel_rfl)) kk1 bel lt1) trodAll_mk0)), rfl, bel.frame _, fun h => by cases h⟩
theorem over : Rows.fnExactIsCompleteRow.holds Tryd.pinned (OpenSpec.ofChange Rows.fnExactIsCompleteSpec) :=
  OpenClaim.holds_of_wide 4 Tryd.f4 rfl rfl rfl rfl rfl rfl rfl ⟨rfl, rfl, rfl, rfl, rfl⟩ rfl rfl rfl rfl rfl (by kernel_rfl) Tryd.func4 (by kernel_rfl)
    (of_decide_eq_true (by kernel_rfl)) (by unfold Func.isWrapper; first | (rw [if_pos (by decide +kernel)]; kernel_rfl) | (rw [if_neg (by decide +kernel)]; exact ⟨rfl, rfl⟩))
    (fun os started H enc _ => lifted os started H enc)
theorem proved : Rows.FnExactIsCompleteSaid := over
#print axioms proved
theorem plain (f : FuncId) (fn : Func) (hf : Tryd.pinned.checked.prog.funcNamed "loop.example/g00876/laws.FnExactIsComplete" = some f) (hfn : Tryd.pinned.checked.prog.funcs[f]? = some fn) :
    true = Tryd.pinned.checked.prog.looks [] ∧ ∀ (j : Nat) t, fn.params[j]? = some t → Tryd.pinned.checked.prog.wantsStandIn t = false := by
  obtain rfl : f = 4 := Option.some.inj ((show Tryd.prog.funcNamed "loop.example/g00876/laws.FnExactIsComplete" = some 4 by kernel_rfl).symm.trans hf) |>.symm
  obtain rfl : fn = Tryd.f4 := (Option.some.inj (Tryd.func4.symm.trans hfn)).symm
  refine ⟨by kernel_rfl, fun j t ht => ?_⟩
  rw [Tryd.params4] at ht
  have hm := Array.mem_of_getElem? ht
  simp only [List.mem_toArray, List.mem_cons, List.not_mem_nil, or_false] at hm
  rcases hm with rfl | rfl
  · exact (show Tryd.prog.wantsStandIn 22 = false by kernel_rfl)
  · exact (show Tryd.prog.wantsStandIn 30 = false by kernel_rfl)
theorem card : Rows.FnExactIsCompleteCardSaid :=
  Claim7.holds_tied_plain_at .later [] _ _ _ _ proved (fun _ h => by cases h) (by kernel_rfl) (fun _ h => by cases h) fnExactIsComplete_row_tie rfl ⟨rfl, rfl⟩ (by kernel_rfl) rfl plain (by kernel_rfl)
#print axioms card
end Go.Proofs.YtdogpphfofimeaaDoor.fnExactIsComplete
namespace Go.Proofs.YtdogpphfofimeaaDoor
/-- The row, under a short name, for the claim. -/
theorem fnExactIsComplete_holds : Rows.FnExactIsCompleteSaid := fnExactIsComplete.proved
/-- The card, under a short name. -/
theorem fnExactIsCompleteCard_holds : Rows.FnExactIsCompleteCardSaid := fnExactIsComplete.card
end Go.Proofs.YtdogpphfofimeaaDoor
