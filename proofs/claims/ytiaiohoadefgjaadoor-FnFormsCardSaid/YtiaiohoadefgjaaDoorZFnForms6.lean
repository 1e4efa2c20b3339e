/- For every row of bytes the law FnForms answers true: forms are recovered from their texts. No condition.
This file (part 6 of 7) holds what the proof needs: plain functions with rounds and contracts written by programs of this work over the translation, and the lemmas. -/
import Derived.Test.YtiaiohoadefgjaaDoorZFnForms2
import Derived.Test.YtiaiohoadefgjaaDoorZFnForms5
import Derived.Test.YtiaiohoadefgjaaDoorZFnForms3
import Derived.Test.YtiaiohoadefgjaaDoorZFnForms1
import Derived.ChangeArms
import Derived.DataReads
import Derived.Deep.Slices
import Derived.ChangeOld
import Derived.OpenShut
import Derived.Laws.BitsAllLaws
import Derived.Lib.Strings
import Derived.Test.YtiaiohoadefgjaaDoorZFnForms4
import Derived.Lib.ItoaNum
import Derived.Lib.ItoaLen
import Derived.Lib.Join
namespace Go.Proofs.YtiaiohoadefgjaaDoor.X
open Go.RowKit Go.Proofs.YtiaiohoadefgjaaDoorW.PrintWords Go.Proofs.YtiaiohoadefgjaaDoorW.PrintLast Go.Proofs.YtiaiohoadefgjaaDoorW.PrintMore
attribute [local go_sem] max2_int min2_int max_two min_two max_three min_three max_four min_four
set_option linter.unusedVariables false
set_option linter.unusedSimpArgs false
attribute [-simp] ByteArray.size_append ByteArray.size_extract
attribute [-go_sem] ByteArray.size_append'
/-! ### impl_fieldOfWords: function 30 -/
mutual
def impl_fieldOfWords.j3 : Nat → List ByteArray → ByteArray → Int → Int → Int → List ByteArray → Bool → ByteArray → Option (ByteArray × Int × Int × Int × List ByteArray × Bool × ByteArray × Bool)
 | 0, _, _, _, _, _, _, _, _ => none
 | k + 1, x6, x104000, x104001, x104002, x104003, x104004, x104005, x104006 => if (x6.length : Int) > 0 then (if 0 < (x6.length : Int) then (impl_fieldOfWords.j4 k x6 ((rdOf ByteArray.empty x6 0).toList == ([110, 101, 101, 100, 101, 100] : List UInt8)) x104000 x104001 x104002 x104003 x104004 x104005 x104006) else (none)) else (impl_fieldOfWords.j4 k x6 false x104000 x104001 x104002 x104003 x104004 x104005 x104006)
def impl_fieldOfWords.j4 : Nat → List ByteArray → Bool → ByteArray → Int → Int → Int → List ByteArray → Bool → ByteArray → Option (ByteArray × Int × Int × Int × List ByteArray × Bool × ByteArray × Bool)
 | 0, _, _, _, _, _, _, _, _, _ => none
 | k + 1, x6, x89, x104000, x104001, x104002, x104003, x104004, x104005, x104006 => if x89 = true then (if 1 ≤ (x6.length : Int) then ((some (x6.drop 1 : List ByteArray)).bind fun y133 => (if (y133.length : Int) = 2 then (if 1 < (y133.length : Int) then (some (x104000, x104001, x104002, x104003, x104004, true, rdOf ByteArray.empty y133 1, true)) else (none)) else (some (x104000, x104001, x104002, x104003, x104004, true, x104006, true)))) else (none)) else (if (x6.length : Int) = 2 then (if 1 < (x6.length : Int) then (some (x104000, x104001, x104002, x104003, x104004, x104005, rdOf ByteArray.empty x6 1, true)) else (none)) else (some (x104000, x104001, x104002, x104003, x104004, x104005, x104006, true)))
def impl_fieldOfWords.j0 : Nat → ByteArray → List ByteArray → ByteArray → Bool → ByteArray → Int → Int → Int → Bool → ByteArray → Option (ByteArray × Int × Int × Int × List ByteArray × Bool × ByteArray × Bool)
 | 0, _, _, _, _, _, _, _, _, _, _ => none
 | k + 1, x5, x6, x20, x21, x104000, x104001, x104002, x104003, x104005, x104006 => if x21 = true then (if x5.toList = ([116, 101, 120, 116] : List UInt8) then (impl_fieldOfWords.j1 k x6 x104000 2 x104002 x104003 x104005 x104006) else (impl_fieldOfWords.j1 k x6 x104000 1 x104002 x104003 x104005 x104006)) else (if x20.toList = ([99, 104, 111, 105, 99, 101] : List UInt8) then (impl_fieldOfWords.l0 k x6 x104000 3 x104002 x104003 ([] : List ByteArray) x104005 x104006) else (if x20.toList = ([102, 108, 97, 103] : List UInt8) then (impl_fieldOfWords.j3 k x6 x104000 4 x104002 x104003 ([] : List ByteArray) x104005 x104006) else (impl_fieldOfWords.j3 k x6 x104000 x104001 x104002 x104003 ([] : List ByteArray) x104005 x104006)))
def impl_fieldOfWords.j1 : Nat → List ByteArray → ByteArray → Int → Int → Int → Bool → ByteArray → Option (ByteArray × Int × Int × Int × List ByteArray × Bool × ByteArray × Bool)
 | 0, _, _, _, _, _, _, _ => none
 | k + 1, x6, x104000, x104001, x104002, x104003, x104005, x104006 => if (x6.length : Int) < 2 then (some ((⟨#[]⟩ : ByteArray), 0, 0, 0, ([] : List ByteArray), false, (⟨#[]⟩ : ByteArray), false)) else (if 0 < (x6.length : Int) then ((impl_ParseInt.f (rdOf ByteArray.empty x6 0)).bind fun bt111 => (if 1 < (x6.length : Int) then ((impl_ParseInt.f (rdOf ByteArray.empty x6 1)).bind fun bt114 => (if 2 ≤ (x6.length : Int) then (impl_fieldOfWords.j3 k (x6.drop 2) x104000 x104001 bt111.1 bt114.1 ([] : List ByteArray) x104005 x104006) else (none))) else (none))) else (none))
def impl_fieldOfWords.l0 : Nat → List ByteArray → ByteArray → Int → Int → Int → List ByteArray → Bool → ByteArray → Option (ByteArray × Int × Int × Int × List ByteArray × Bool × ByteArray × Bool)
 | 0, _, _, _, _, _, _, _, _ => none
 | k + 1, x6, x104000, x104001, x104002, x104003, x104004, x104005, x104006 => if (x6.length : Int) > 0 then (if 0 < (x6.length : Int) then (if (rdOf ByteArray.empty x6 0).toList = ([110, 101, 101, 100, 101, 100] : List UInt8) then (impl_fieldOfWords.j3 k x6 x104000 x104001 x104002 x104003 x104004 x104005 x104006) else (if (rdOf ByteArray.empty x6 0).toList = ([105, 102] : List UInt8) then (impl_fieldOfWords.j3 k x6 x104000 x104001 x104002 x104003 x104004 x104005 x104006) else (if x104004.length < 8796093022208 then (if 1 ≤ (x6.length : Int) then (impl_fieldOfWords.l0 k (x6.drop 1) x104000 x104001 x104002 x104003 (x104004 ++ [rdOf ByteArray.empty x6 0]) x104005 x104006) else (none)) else (none)))) else (none)) else (impl_fieldOfWords.j3 k x6 x104000 x104001 x104002 x104003 x104004 x104005 x104006)
end
def impl_fieldOfWords.f (k : Nat) (l0 : List ByteArray) : Option (ByteArray × Int × Int × Int × List ByteArray × Bool × ByteArray × Bool) := if (l0.length : Int) < 2 then (some ((⟨#[]⟩ : ByteArray), 0, 0, 0, ([] : List ByteArray), false, (⟨#[]⟩ : ByteArray), false)) else (if 0 < (l0.length : Int) then (if 1 < (l0.length : Int) then (if 2 ≤ (l0.length : Int) then ((some (l0.drop 2 : List ByteArray)).bind fun y105 => (if (rdOf ByteArray.empty l0 1).toList = ([110, 117, 109, 98, 101, 114] : List UInt8) then (impl_fieldOfWords.j0 k (rdOf ByteArray.empty l0 1) y105 (rdOf ByteArray.empty l0 1) ((rdOf ByteArray.empty l0 1).toList == ([110, 117, 109, 98, 101, 114] : List UInt8)) (rdOf ByteArray.empty l0 0) 0 0 0 false (⟨#[]⟩ : ByteArray)) else (impl_fieldOfWords.j0 k (rdOf ByteArray.empty l0 1) y105 (rdOf ByteArray.empty l0 1) ((rdOf ByteArray.empty l0 1).toList == ([116, 101, 120, 116] : List UInt8)) (rdOf ByteArray.empty l0 0) 0 0 0 false (⟨#[]⟩ : ByteArray)))) else (none)) else (none)) else (none))
def impl_fieldOfWords.T19 : Bool × List (List Nat × List Nat) := (true, [([], []), ([0], [0]), ([], []), ([2], [2]), ([3], [3]), ([4], [4]), ([1, 5], [1, 5]), ([0, 1, 2, 3, 4, 5, 6], []), ([7, 6, 6, 0, 1, 2, 3, 4, 5, 6], [6, 7])])
def impl_fieldOfWords.B19 : List Nat := [0, 1, 0, 4, 12, 28, 63, 127, 255]
theorem impl_fieldOfWords.tab19 : rtab .any (opsOf Tryd.f30 19) = impl_fieldOfWords.T19 := by kernel_rfl
theorem impl_fieldOfWords.bits19 : waitsOk impl_fieldOfWords.T19.2 impl_fieldOfWords.B19 = true := by kernel_rfl
set_option maxHeartbeats 8000000 in
set_option maxRecDepth 100000 in
theorem impl_fieldOfWords.calls (k : Nat) (P0_ : Nat → Prop) (A0 : Option Addr) (c0 : Nat) (l0 : List ByteArray) (r1 : ByteArray) (r2 : Int) (r3 : Int) (r4 : Int) (r5 : List ByteArray) (r6 : Bool) (r7 : ByteArray) (r8 : Bool) (w : World) (hs0 : Kd.V Kd.string 9 w w.heap.size (fun k_ => P0_ k_) (.slice A0 l0.length c0) l0) (hG : GE w) (h : impl_fieldOfWords.f k l0 = some (r1, r2, r3, r4, r5, r6, r7, r8)) :
  Calls Tryd.prog 30 #[.slice A0 l0.length c0] w fun e w' => ∃ v4_ : Value, e = .returned (.tuple #[.agg #[.string r1, .int .i64 r2, .int .i64 r3, .int .i64 r4, v4_, .bool r6, .string r7], .bool r8]) ∧ Kd.R Kd.string 9 w' w.heap.size (fun k_ => (w.heap.size ≤ k_)) v4_ r5 ∧ Below w.heap.size w w' := by
 (have hu54 := Tryd.underlying54); (have HO0 := Aside0.mk (show Kd.V Kd.string 9 w w.heap.size (fun k_ => (P0_ k_ ∨ w.heap.size ≤ k_)) (.slice A0 l0.length c0) l0 from Kd.V_mono hs0 (fun k_ hk => .inl hk))); (have HG := Aside0.mk hG); clear hG; (have HB := Aside0.mk (Below.refl w.heap.size w)); (have H : (if (l0.length : Int) < 2 then (some ((⟨#[]⟩ : ByteArray), 0, 0, 0, ([] : List ByteArray), false, (⟨#[]⟩ : ByteArray), false)) else (if 0 < (l0.length : Int) then (if 1 < (l0.length : Int) then (if 2 ≤ (l0.length : Int) then ((some (l0.drop 2 : List ByteArray)).bind fun y105 => (if (rdOf ByteArray.empty l0 1).toList = ([110, 117, 109, 98, 101, 114] : List UInt8) then (impl_fieldOfWords.j0 k (rdOf ByteArray.empty l0 1) y105 (rdOf ByteArray.empty l0 1) ((rdOf ByteArray.empty l0 1).toList == ([110, 117, 109, 98, 101, 114] : List UInt8)) (rdOf ByteArray.empty l0 0) 0 0 0 false (⟨#[]⟩ : ByteArray)) else (impl_fieldOfWords.j0 k (rdOf ByteArray.empty l0 1) y105 (rdOf ByteArray.empty l0 1) ((rdOf ByteArray.empty l0 1).toList == ([116, 101, 120, 116] : List UInt8)) (rdOf ByteArray.empty l0 0) 0 0 0 false (⟨#[]⟩ : ByteArray)))) else (none)) else (none)) else (none))) = some (r1, r2, r3, r4, r5, r6, r7, r8) := h); clear h; (by_cases c2 : (l0.length : Int) < 2); (· (rw [if_pos c2] at H); (have c2b0 : decide ((l0.length : Int) < 2) = true := decide_eq_true c2); (have c2b1 : decide (l0.length < 2) = true := decide_eq_true (by omega)); clear c2; (simp only [Option.some.injEq, Prod.mk.injEq] at H); (obtain ⟨rfl, rfl, rfl, rfl, rfl, rfl, rfl, rfl⟩ := H); (go_enter Tryd.func30, Tryd.ntmps30); (go_wp2_with (first | ((with_reducible refine gate_dst (N := 2) rfl ?_); refine box_event ?hg (N := 2) ?hd (cs := #[.string (⟨#[]⟩ : ByteArray), .int .i64 0, .int .i64 0, .int .i64 0, .slice none 0 0, .bool false, .string (⟨#[]⟩ : ByteArray)]) (t := 54) ?hr ?_; (case hd => rfl); (case hg => rfl); (case hr => first | (go_simp; done) | (go_simp; rfl)); intro gb101 hg w3 hbox hb; have n0_ := Aside0.mk (Kd.V_below (Kd.V_elderB Q167 gb101 (Nat.le_of_eq hg.symm)) hb); have hB_ := bz Q31 hb; have n1_ := Aside0.mk (below_step hB_ hb); have n2_ := Aside0.mk (hbox); have n3_ := Aside0.mk ((Q147 : w.heap.size ≤ gb101)); have n4_ := n3_; clear HO0 HB; have HO0 := n0_; have HB := n1_; have BK101 := n2_; have GW101 := n3_; have GE101 := n4_; clear n0_ n1_ n2_ n3_ n4_ hB_ hb hbox hg; have hcz4_0 := cz BK101.out 0; have hcz4_1 := cz BK101.out 1; have hcz4_2 := cz BK101.out 2; have hcz4_3 := cz BK101.out 3; have hcz4_4 := cz BK101.out 4; have hcz4_5 := cz BK101.out 5; have hcz4_6 := cz BK101.out 6; have hfz4_0 := blk_frozen BK101.out 0; have hfz4_1 := blk_frozen BK101.out 1; have hfz4_2 := blk_frozen BK101.out 2; have hfz4_3 := blk_frozen BK101.out 3; have hfz4_4 := blk_frozen BK101.out 4; have hfz4_5 := blk_frozen BK101.out 5; have hfz4_6 := blk_frozen BK101.out 6))); (refine bodyPost_ret (results_ct rfl _ _ gb101 54 #[.string (⟨#[]⟩ : ByteArray), .int .i64 0, .int .i64 0, .int .i64 0, .slice none 0 0, .bool false, .string (⟨#[]⟩ : ByteArray)] (0, 0) _ rfl Q168 Tryd.underlying54 rfl (by kernel_rfl)) rfl ?_); (exact ⟨_, Q97, Q127, Q169⟩))
 ·rw [if_neg c2] at H
  (have c2b0 : decide ((l0.length : Int) < 2) = false := decide_eq_false c2); (have c2b1 : decide (l0.length < 2) = false := decide_eq_false (by omega)); clear c2; (by_cases c5 : 0 < (l0.length : Int))
  ·rw [if_pos c5] at H
   (have c5b0 : decide (0 < (l0.length : Int)) = true := decide_eq_true c5); (have c5b1 : decide (0 < l0.length) = true := decide_eq_true (by omega)); clear c5; (by_cases c6 : 1 < (l0.length : Int))
   ·rw [if_pos c6] at H
    (have c6b0 : decide (1 < (l0.length : Int)) = true := decide_eq_true c6); (have c6b1 : decide (1 < l0.length) = true := decide_eq_true (by omega)); clear c6; (by_cases c7 : 2 ≤ (l0.length : Int))
    ·rw [if_pos c7] at H
     (have c7b0 := eq_true c7); (have c7b1 : decide (2 ≤ (l0.length : Int)) = true := decide_eq_true c7); clear c7; (obtain ⟨y105, hy105⟩ : ∃ y_ : List ByteArray, y_ = (l0.drop 2) := ⟨_, rfl⟩); (replace H : (if (rdOf ByteArray.empty l0 1).toList = ([110, 117, 109, 98, 101, 114] : List UInt8) then (impl_fieldOfWords.j0 k (rdOf ByteArray.empty l0 1) y105 (rdOf ByteArray.empty l0 1) ((rdOf ByteArray.empty l0 1).toList == ([110, 117, 109, 98, 101, 114] : List UInt8)) (rdOf ByteArray.empty l0 0) 0 0 0 false (⟨#[]⟩ : ByteArray)) else (impl_fieldOfWords.j0 k (rdOf ByteArray.empty l0 1) y105 (rdOf ByteArray.empty l0 1) ((rdOf ByteArray.empty l0 1).toList == ([116, 101, 120, 116] : List UInt8)) (rdOf ByteArray.empty l0 0) 0 0 0 false (⟨#[]⟩ : ByteArray))) = some (r1, r2, r3, r4, r5, r6, r7, r8) := by first | (rw [hy105]; with_reducible exact H) | (have H2_ := (Option.bind_some _ _).symm.trans H; rw [hy105]; with_reducible exact H2_) | (have H2_ := (Option.bind_some _ _).symm.trans H; with_reducible exact H2_) | with_reducible exact H | (rw [hy105]; exact H) | exact H); (have Ny105 := Aside0.mk hy105); clear hy105; (have HC8 := Aside0.mk H); clear H; (go_enter Tryd.func30, Tryd.ntmps30); (try go_wp2_with (first | ((with_reducible refine gate_dst (N := 2) rfl ?_); refine box_event ?hg (N := 2) ?hd (cs := #[.string (⟨#[]⟩ : ByteArray), .int .i64 0, .int .i64 0, .int .i64 0, .slice none 0 0, .bool false, .string (⟨#[]⟩ : ByteArray)]) (t := 54) ?hr ?_; (case hd => rfl); (case hg => rfl); (case hr => first | (go_simp; done) | (go_simp; rfl)); intro gb101 hg w9 hbox hb; have n0_ := Aside0.mk (Kd.V_below (Kd.V_elderB Q167 gb101 (Nat.le_of_eq hg.symm)) hb); have hB_ := bz Q31 hb; have n1_ := Aside0.mk (below_step hB_ hb); have n2_ := Aside0.mk (hbox); have n3_ := Aside0.mk ((Q147 : w.heap.size ≤ gb101)); have n4_ := n3_; clear HO0 HB; have HO0 := n0_; have HB := n1_; have BK101 := n2_; have GW101 := n3_; have GE101 := n4_; clear n0_ n1_ n2_ n3_ n4_ hB_ hb hbox hg; have p102 : 0 ≤ (0 : Int) := (by omega); have q102 : 0 < (l0.length : Int) := of_decide_eq_true Q32; obtain ⟨ad102, e102, hx102_0⟩ := Kd.at_string (Kd.V_reads' HO0.out).2.2 0 p102 q102; cases e102; have qi102 : (0 < l0.length) = True := eq_true (by omega); (try rw [show ((0 : Int)).toNat = 0 from rfl] at hx102_0); (try rw [Addr.add_zero'] at hx102_0); replace p102 := eq_true p102; replace q102 := eq_true q102) | ((with_reducible refine gate_dst (N := 4) rfl ?_); refine box_event ?hg (N := 4) ?hd (cs := #[.string (⟨#[]⟩ : ByteArray), .int .i64 0, .int .i64 0, .int .i64 0, .slice none 0 0, .bool false, .string (⟨#[]⟩ : ByteArray)]) (t := 54) ?hr ?_; (case hd => rfl); (case hg => rfl); (case hr => first | (go_simp; done) | (go_simp; rfl)); intro gb103 hg w10 hbox hb; have n0_ := Aside0.mk (Kd.V_below (Kd.V_elderB Q167 gb103 (Nat.le_of_eq hg.symm)) hb); have n1_ := Aside0.mk (blk_below Q170 hb); have hB_ := bz Q169 hb; have n2_ := Aside0.mk (below_step hB_ hb); have n3_ := Aside0.mk (hbox); have n4_ := Aside0.mk ((Q147 : w.heap.size ≤ gb103)); have n5_ := n4_; have n6_ := Aside0.mk ((by rw [hg]; exact Nat.ne_of_lt (blk_lt Q170) : gb101 ≠ gb103)); have n7_ := Aside0.mk (Ne.symm n6_.out); clear HO0 BK101 HB; have HO0 := n0_; have BK101 := n1_; have HB := n2_; have BK103 := n3_; have GW103 := n4_; have GE103 := n5_; have NB101_103 := n6_; have NB103_101 := n7_; clear n0_ n1_ n2_ n3_ n4_ n5_ n6_ n7_ hB_ hb hbox hg; have hnb11 := NB103_101.out; have hnc11 := NB101_103.out; have hcz12_0 := cz BK103.out 0; have hcz12_1 := cz BK103.out 1; have hcz12_2 := cz BK103.out 2; have hcz12_3 := cz BK103.out 3; have hcz12_4 := cz BK103.out 4; have hcz12_5 := cz BK103.out 5; have hcz12_6 := cz BK103.out 6; have hfz12_0 := blk_frozen BK103.out 0; have hfz12_1 := blk_frozen BK103.out 1; have hfz12_2 := blk_frozen BK103.out 2; have hfz12_3 := blk_frozen BK103.out 3; have hfz12_4 := blk_frozen BK103.out 4; have hfz12_5 := blk_frozen BK103.out 5; have hfz12_6 := blk_frozen BK103.out 6)))
     (have n0_ : Aside0 (Kd.V Kd.string 9 (((((((w10.setCell ⟨gb103, 0, none⟩ (.string (rdOf ByteArray.empty l0 0))).setCell ⟨gb103, 1, none⟩ (.int .i64 0)).setCell ⟨gb103, 2, none⟩ (.int .i64 0)).setCell ⟨gb103, 3, none⟩ (.int .i64 0)).setCell ⟨gb103, 4, none⟩ (.slice none 0 0)).setCell ⟨gb103, 5, none⟩ (.bool false)).setCell ⟨gb103, 6, none⟩ (.string (⟨#[]⟩ : ByteArray))) w.heap.size (fun k_ => (P0_ k_ ∨ w.heap.size ≤ k_) ∧ k_ ≠ gb101 ∧ k_ ≠ gb103) (.slice (some ad102) l0.length c0) l0) := ⟨by (with_reducible repeat (first | apply Kd.V_alloc | apply Kd.V_drewN | apply Kd.V_drew)); exact Kd.V_mono (Kd.V_far (p := ⟨gb103, 6, none⟩) (Kd.V_far (p := ⟨gb103, 5, none⟩) (Kd.V_far (p := ⟨gb103, 4, none⟩) (Kd.V_far (p := ⟨gb103, 3, none⟩) (Kd.V_far (p := ⟨gb103, 2, none⟩) (Kd.V_far (p := ⟨gb103, 1, none⟩) (Kd.V_far (p := ⟨gb103, 0, none⟩) (Kd.V_mono HO0.out (fun k_ hk => (⟨hk, hk.2⟩ : _ ∧ k_ ≠ gb103))) (fun _ hk => hk.2) (.string (rdOf ByteArray.empty l0 0))) (fun _ hk => hk.2) (.int .i64 0)) (fun _ hk => hk.2) (.int .i64 0)) (fun _ hk => hk.2) (.int .i64 0)) (fun _ hk => hk.2) (.slice none 0 0)) (fun _ hk => hk.2) (.bool false)) (fun _ hk => hk.2) (.string (⟨#[]⟩ : ByteArray))) (fun _ hk => ⟨hk.1.1.1, ⟨hk.1.1.2, hk.1.2⟩⟩)⟩); (have n1_ : Aside0 ((((((((w10.setCell ⟨gb103, 0, none⟩ (.string (rdOf ByteArray.empty l0 0))).setCell ⟨gb103, 1, none⟩ (.int .i64 0)).setCell ⟨gb103, 2, none⟩ (.int .i64 0)).setCell ⟨gb103, 3, none⟩ (.int .i64 0)).setCell ⟨gb103, 4, none⟩ (.slice none 0 0)).setCell ⟨gb103, 5, none⟩ (.bool false)).setCell ⟨gb103, 6, none⟩ (.string (⟨#[]⟩ : ByteArray))).heap[gb101]? = some (.cells #[.string (⟨#[]⟩ : ByteArray), .int .i64 0, .int .i64 0, .int .i64 0, .slice none 0 0, .bool false, .string (⟨#[]⟩ : ByteArray)] 54 (0, 0))) := ⟨by (with_reducible repeat (first | refine kN ?_ _ | refine kD ?_ | refine kA ?_ _)); refine blk_far ?_ NB101_103.out _; (with_reducible repeat (first | refine kN ?_ _ | refine kD ?_ | refine kA ?_ _)); refine blk_far ?_ NB101_103.out _; (with_reducible repeat (first | refine kN ?_ _ | refine kD ?_ | refine kA ?_ _)); refine blk_far ?_ NB101_103.out _; (with_reducible repeat (first | refine kN ?_ _ | refine kD ?_ | refine kA ?_ _)); refine blk_far ?_ NB101_103.out _; (with_reducible repeat (first | refine kN ?_ _ | refine kD ?_ | refine kA ?_ _)); refine blk_far ?_ NB101_103.out _; (with_reducible repeat (first | refine kN ?_ _ | refine kD ?_ | refine kA ?_ _)); refine blk_far ?_ NB101_103.out _; (with_reducible repeat (first | refine kN ?_ _ | refine kD ?_ | refine kA ?_ _)); refine blk_far ?_ NB101_103.out _; (with_reducible repeat (first | refine kN ?_ _ | refine kD ?_ | refine kA ?_ _)); exact BK101.out⟩); (have n2_ : Aside0 ((((((((w10.setCell ⟨gb103, 0, none⟩ (.string (rdOf ByteArray.empty l0 0))).setCell ⟨gb103, 1, none⟩ (.int .i64 0)).setCell ⟨gb103, 2, none⟩ (.int .i64 0)).setCell ⟨gb103, 3, none⟩ (.int .i64 0)).setCell ⟨gb103, 4, none⟩ (.slice none 0 0)).setCell ⟨gb103, 5, none⟩ (.bool false)).setCell ⟨gb103, 6, none⟩ (.string (⟨#[]⟩ : ByteArray))).heap[gb103]? = some (.cells #[.string (rdOf ByteArray.empty l0 0), .int .i64 0, .int .i64 0, .int .i64 0, .slice none 0 0, .bool false, .string (⟨#[]⟩ : ByteArray)] 54 (0, 0))) := ⟨by (with_reducible repeat (first | refine kN ?_ _ | refine kD ?_ | refine kA ?_ _)); refine blk_put (cs := #[.string (rdOf ByteArray.empty l0 0), .int .i64 0, .int .i64 0, .int .i64 0, .slice none 0 0, .bool false, .string (⟨#[]⟩ : ByteArray)]) ?_ 6 _ rfl; (with_reducible repeat (first | refine kN ?_ _ | refine kD ?_ | refine kA ?_ _)); refine blk_put (cs := #[.string (rdOf ByteArray.empty l0 0), .int .i64 0, .int .i64 0, .int .i64 0, .slice none 0 0, .bool false, .string (⟨#[]⟩ : ByteArray)]) ?_ 5 _ rfl; (with_reducible repeat (first | refine kN ?_ _ | refine kD ?_ | refine kA ?_ _)); refine blk_put (cs := #[.string (rdOf ByteArray.empty l0 0), .int .i64 0, .int .i64 0, .int .i64 0, .slice none 0 0, .bool false, .string (⟨#[]⟩ : ByteArray)]) ?_ 4 _ rfl; (with_reducible repeat (first | refine kN ?_ _ | refine kD ?_ | refine kA ?_ _)); refine blk_put (cs := #[.string (rdOf ByteArray.empty l0 0), .int .i64 0, .int .i64 0, .int .i64 0, .slice none 0 0, .bool false, .string (⟨#[]⟩ : ByteArray)]) ?_ 3 _ rfl; (with_reducible repeat (first | refine kN ?_ _ | refine kD ?_ | refine kA ?_ _)); refine blk_put (cs := #[.string (rdOf ByteArray.empty l0 0), .int .i64 0, .int .i64 0, .int .i64 0, .slice none 0 0, .bool false, .string (⟨#[]⟩ : ByteArray)]) ?_ 2 _ rfl; (with_reducible repeat (first | refine kN ?_ _ | refine kD ?_ | refine kA ?_ _)); refine blk_put (cs := #[.string (rdOf ByteArray.empty l0 0), .int .i64 0, .int .i64 0, .int .i64 0, .slice none 0 0, .bool false, .string (⟨#[]⟩ : ByteArray)]) ?_ 1 _ rfl; (with_reducible repeat (first | refine kN ?_ _ | refine kD ?_ | refine kA ?_ _)); refine blk_put (cs := #[.string (⟨#[]⟩ : ByteArray), .int .i64 0, .int .i64 0, .int .i64 0, .slice none 0 0, .bool false, .string (⟨#[]⟩ : ByteArray)]) ?_ 0 _ rfl; (with_reducible repeat (first | refine kN ?_ _ | refine kD ?_ | refine kA ?_ _)); exact BK103.out⟩); (have n3_ : Aside0 (Below w.heap.size w (((((((w10.setCell ⟨gb103, 0, none⟩ (.string (rdOf ByteArray.empty l0 0))).setCell ⟨gb103, 1, none⟩ (.int .i64 0)).setCell ⟨gb103, 2, none⟩ (.int .i64 0)).setCell ⟨gb103, 3, none⟩ (.int .i64 0)).setCell ⟨gb103, 4, none⟩ (.slice none 0 0)).setCell ⟨gb103, 5, none⟩ (.bool false)).setCell ⟨gb103, 6, none⟩ (.string (⟨#[]⟩ : ByteArray)))) := ⟨Q171⟩)
     ((try clear HO0)); ((try clear BK101)); ((try clear BK103)); ((try clear HB)); (generalize (((((((w10.setCell ⟨gb103, 0, none⟩ (.string (rdOf ByteArray.empty l0 0))).setCell ⟨gb103, 1, none⟩ (.int .i64 0)).setCell ⟨gb103, 2, none⟩ (.int .i64 0)).setCell ⟨gb103, 3, none⟩ (.int .i64 0)).setCell ⟨gb103, 4, none⟩ (.slice none 0 0)).setCell ⟨gb103, 5, none⟩ (.bool false)).setCell ⟨gb103, 6, none⟩ (.string (⟨#[]⟩ : ByteArray))) = w13 at n0_ n1_ n2_ n3_ ⊢); (have HO0 := n0_); (have BK101 := n1_); (have BK103 := n2_); (have HB := n3_); clear n0_ n1_ n2_ n3_; (have n0_ := Aside0.mk (Kd.V_drew HO0.out)); (have n1_ := Aside0.mk (blk_drew BK101.out)); (have n2_ := Aside0.mk (blk_drew BK103.out)); (have n3_ := Aside0.mk (below_drew1 HB.out)); clear HO0 BK101 BK103 HB; (have HO0 := n0_); (have BK101 := n1_); (have BK103 := n2_); (have HB := n3_); clear n0_ n1_ n2_ n3_; (have p104 : 0 ≤ (1 : Int) := (by omega)); (have q104 : 1 < (l0.length : Int) := of_decide_eq_true Q32); (obtain ⟨ad104, e104, hx104_0⟩ := Kd.at_string (Kd.V_reads' HO0.out).2.2 1 p104 q104); (obtain rfl : ad102 = ad104 := (by injection e104)); ((try simp only [show (1 : Int).toNat = 1 from rfl, Nat.reduceMul, Nat.reduceEqDiff, Go.Addr.add, ↓reduceIte] at hx104_0)); (have qi104 : (1 < l0.length) = True := eq_true (by omega)); ((try rw [show ((1 : Int)).toNat = 1 from rfl] at hx104_0)); (replace p104 := eq_true p104); (replace q104 := eq_true q104); (have q15 : (2 : Int) ≤ ((l0.length : Int) : Int) := of_decide_eq_true Q32); (obtain ⟨i015, hi015, _, hsz15, _⟩ := info_parts info9); (have hroom15 : l0.length ≤ c0 := (Kd.V_reads' HO0.out).2.1); (have hC15 : Kd.F Kd.string _ _ (some ad102) l0.length l0 := (Kd.V_at (base := w.heap.size) HO0.out).2.2); (have hcut15 := cut_from (P := Tryd.prog) 42 9 .i64 Tryd.underlying42 hi015 1 hsz15 (some ad102) l0.length c0 2 (by omega) q15); (have hr15 := Kd.F_cut (m := (2 : Int).toNat) (c := c0) hC15 (by omega) hroom15); (obtain ⟨A15, hA15⟩ : ∃ A1, A1 = (if c0 = (2 : Int).toNat then (some ad102) else ((some ad102) : Option Addr).map (·.add ((2 : Int).toNat * 1))) := ⟨_, rfl⟩); (obtain ⟨c15, hc15⟩ : ∃ c1, c1 = c0 - (2 : Int).toNat := ⟨_, rfl⟩); (have hy15 : y105.length = l0.length - (2 : Int).toNat := (by rw [Ny105.out, List.length_drop] <;> omega)); (rw [show (l0).drop (2 : Int).toNat = y105 from Ny105.out.symm] at hr15); (replace hr15 : Kd.F Kd.string _ _ A15 y105.length y105 := (by rw [hA15]; exact hr15)); (rw [← hy15, ← hA15, ← hc15] at hcut15); (have HO109 := Aside0.mk (show Kd.V Kd.string 9 _ w.heap.size _ (.slice A15 y105.length c15) y105 from Kd.V_mk (by rw [hy15, hc15]; exact Nat.sub_le_sub_right hroom15 _) hr15)); (have HC109 := Aside0.mk (show y105.length ≤ c15 from by rw [hy15, hc15]; exact Nat.sub_le_sub_right hroom15 _)); clear hr15 hC15 hroom15 hi015 hsz15 hc15; (have KY15 := Aside0.mk hy15); (have KA15 := Aside0.mk hA15); clear hy15 hA15; (replace q15 := eq_true q15); (refine start_ (n := 7) (S := fun w' => w'.cell? ⟨ad102.block, ad102.off + 1, none⟩ = some (.string (rdOf ByteArray.empty l0 1))) (ds := []) (cn 7 0) (by kernel_rfl) rfl (by kernel_rfl) (hx104_0) (fun hHeld => ?_)); (generalize w13.drew = w14 at HO0 BK101 BK103 HB HO109 hx104_0 hHeld ⊢); (refine pure_ (i := 0) (N := some 15) (v := ?_) (a' := ?_) (cn 7 1) rfl rfl (by kernel_rfl) (fun _ _ _ h => h) (Or.inl ⟨by rfl, ?_⟩) ?_ ?_); rotate_left; (· intro w'; go_simp; with_reducible rfl); rotate_left; (· (simp only [Act.put, aS1, aS2, aS3, i64_w, i32_w]); rfl); (refine pure_ (i := 1) (N := some 16) (v := ?_) (a' := ?_) (cn 7 2) rfl rfl (by kernel_rfl) (fun _ _ _ h => h) (Or.inl ⟨by rfl, ?_⟩) ?_ ?_); rotate_left; (· intro w'; go_simp; with_reducible rfl); rotate_left; (· (simp only [Act.put, aS1, aS2, aS3, i64_w, i32_w]); rfl); (refine pure_ (i := 3) (N := some 18) (v := ?_) (a' := ?_) (cb 7 11) rfl rfl (by kernel_rfl) (fun _ _ _ h => h) (Or.inl ⟨by rfl, ?_⟩) ?_ ?_); rotate_left; (· intro w'; go_simp; with_reducible rfl); rotate_left; (· (simp only [Act.put, aS1, aS2, aS3, i64_w, i32_w]); rfl); (refine pure_ (i := 4) (N := some 19) (v := ?_) (a' := ?_) (cb 7 27) rfl rfl (by kernel_rfl) (fun _ _ _ h => h) (Or.inl ⟨by rfl, ?_⟩) ?_ ?_); rotate_left; (· intro w'; go_simp; with_reducible rfl); rotate_left; (· (simp only [Act.put, aS1, aS2, aS3, i64_w, i32_w]); rfl); (refine take_ (i := 2) (N := some 17) (v := ?_) (a' := ?_) (cn 7 5) rfl rfl (by kernel_rfl) (fun _ _ _ h => h) (Or.inl ⟨by rfl, ?_⟩) hHeld ?_ ?_); rotate_left; (· intro w' s0; go_simp; with_reducible rfl); rotate_left; (· (simp only [Act.put, aS1, aS2, aS3, i64_w, i32_w]); rfl); (refine pure_ (i := 5) (N := some 5) (v := ?_) (a' := ?_) (cn 7 6) rfl rfl (by kernel_rfl) (fun _ _ _ h => h) (Or.inl ⟨by rfl, ?_⟩) ?_ ?_); rotate_left; (· intro w'; go_simp; with_reducible rfl); rotate_left; (· (simp only [Act.put, aS1, aS2, aS3, i64_w, i32_w]); rfl); (refine pure_ (i := 6) (N := some 6) (v := ?_) (a' := ?_) (cn 7 7) rfl rfl (by kernel_rfl) (fun _ _ _ h => h) (Or.inl ⟨by rfl, ?_⟩) ?_ ?_); rotate_left; (· intro w'; go_simp; with_reducible rfl); rotate_left; (· (simp only [Act.put, aS1, aS2, aS3, i64_w, i32_w]); rfl); (refine done_ (by kernel_rfl) ?_); (go_upto_block 0 with (fail))
     go_cut [6] (fun v6 wc => ∃ (kq : Nat) (x6_7 : List ByteArray) (x102000_7 : ByteArray) (x102001_7 : Int) (x102002_7 : Int) (x102003_7 : Int) (x102005_7 : Bool) (x102006_7 : ByteArray) (x104001_7 : Int) (x104002_7 : Int) (x104003_7 : Int) (x104004_7 : List ByteArray) (u104004 : Value), Aside0 (impl_fieldOfWords.j3 kq x6_7 (rdOf ByteArray.empty l0 0) x104001_7 x104002_7 x104003_7 x104004_7 false (⟨#[]⟩ : ByteArray) = some (r1, r2, r3, r4, r5, r6, r7, r8)) ∧ Aside0 (kq ≤ k) ∧ Aside0 (Kd.V Kd.string 9 wc w.heap.size (fun k_ => (P0_ k_ ∨ w.heap.size ≤ k_) ∧ some k_ ≠ (u104004 : Value).ownBlock ∧ k_ ≠ gb101 ∧ k_ ≠ gb103) v6 x6_7) ∧ Aside0 (Kd.R Kd.string 9 wc w.heap.size (fun k_ => (w.heap.size ≤ k_)) u104004 x104004_7) ∧ Aside0 (wc.heap[gb101]? = some (.cells #[.string x102000_7, .int .i64 x102001_7, .int .i64 x102002_7, .int .i64 x102003_7, (.slice none 0 0), .bool x102005_7, .string x102006_7] 54 (0, 0))) ∧ Aside0 (wc.heap[gb103]? = some (.cells #[.string (rdOf ByteArray.empty l0 0), .int .i64 x104001_7, .int .i64 x104002_7, .int .i64 x104003_7, u104004, .bool false, .string (⟨#[]⟩ : ByteArray)] 54 (0, 0))) ∧ Aside0 (Below w.heap.size w wc))
     case first =>
      (have H := HC8.out); clear HC8; (have HC16 := Aside0.mk H); clear H; (go_upto_if 21 with (fail)); (go_cut [21] (fun v21 wc => ∃ (kq : Nat) (x21_15 : Bool), v21 = .bool x21_15 ∧ Aside0 (impl_fieldOfWords.j0 kq (rdOf ByteArray.empty l0 1) y105 (rdOf ByteArray.empty l0 1) x21_15 (rdOf ByteArray.empty l0 0) 0 0 0 false (⟨#[]⟩ : ByteArray) = some (r1, r2, r3, r4, r5, r6, r7, r8)) ∧ Aside0 (kq ≤ k) ∧ Aside0 (Kd.V Kd.string 9 wc w.heap.size (fun k_ => (P0_ k_ ∨ w.heap.size ≤ k_) ∧ k_ ≠ gb101 ∧ k_ ≠ gb103) (.slice A15 y105.length c15) y105) ∧ Aside0 (wc.heap[gb101]? = some (.cells #[.string (⟨#[]⟩ : ByteArray), .int .i64 0, .int .i64 0, .int .i64 0, (.slice none 0 0), .bool false, .string (⟨#[]⟩ : ByteArray)] 54 (0, 0))) ∧ Aside0 (wc.heap[gb103]? = some (.cells #[.string (rdOf ByteArray.empty l0 0), .int .i64 0, .int .i64 0, .int .i64 0, (.slice none 0 0), .bool false, .string (⟨#[]⟩ : ByteArray)] 54 (0, 0))) ∧ Aside0 (Below w.heap.size w wc)))
      case first =>
       (have H := HC16.out); clear HC16; (by_cases c17 : (rdOf ByteArray.empty l0 1).toList = ([110, 117, 109, 98, 101, 114] : List UInt8))
       ·rw [if_pos c17] at H
        (have c17b0 : ((rdOf ByteArray.empty l0 1).toList == ([110, 117, 109, 98, 101, 114] : List UInt8)) = true := beq_iff_eq.mpr c17); (have c17b1 : ((rdOf ByteArray.empty l0 1).toList != ([110, 117, 109, 98, 101, 114] : List UInt8)) = false := bne_eq_false_iff_eq.mpr c17); clear c17; ((first | rw [c17b0] | (simp only [i64_w, i32_w]; rw [c17b0]) | skip)); (have H' := Aside0.mk H); clear H; (go_wp2); (go_meet)
        case rel => exact ⟨_, (((rdOf ByteArray.empty l0 1).toList == ([110, 117, 109, 98, 101, 114] : List UInt8))), Q5, H', ⟨Q6⟩, ⟨Q172⟩, ⟨Q170⟩, ⟨Q34⟩, ⟨Q171⟩⟩
       ·rw [if_neg c17] at H
        (have c17b0 : ((rdOf ByteArray.empty l0 1).toList == ([110, 117, 109, 98, 101, 114] : List UInt8)) = false := beq_eq_false_iff_ne.mpr c17); (have c17b1 : ((rdOf ByteArray.empty l0 1).toList != ([110, 117, 109, 98, 101, 114] : List UInt8)) = true := bne_iff_ne.mpr c17); ((first | rw [c17b0] | (simp only [i64_w, i32_w]; rw [c17b0]) | skip)); (have H' := Aside0.mk H); clear H; (go_wp2); (go_meet)
        case rel => exact ⟨_, (((rdOf ByteArray.empty l0 1).toList == ([116, 101, 120, 116] : List UInt8))), Q5, H', ⟨Q6⟩, ⟨Q172⟩, ⟨Q170⟩, ⟨Q34⟩, ⟨Q171⟩⟩
      case rest =>
       clear HC16; (try clear c1); (try clear p1); (try clear q1); (try clear hx1); (try clear qi1); (try clear c2); (try clear c2b0); (try clear c2b1); (try clear p2); (try clear c3); (try clear c5); (try clear c5b0); (try clear c5b1); (try clear c6); (try clear c6b0); (try clear c6b1); (try clear c7); (try clear c7b0); (try clear c7b1); (try clear p10); (try clear q10); (try clear hx10); (try clear qi10); (try clear c11); (try clear c15); (try clear q15); (try clear c17); (try clear c17b0); (try clear c17b1); (try clear hcz12_0); (try clear hcz12_1); (try clear hcz12_2); (try clear hcz12_3); (try clear hcz12_4); (try clear hcz12_5); (try clear hcz12_6); (try clear hcz4_0); (try clear hcz4_1); (try clear hcz4_2); (try clear hcz4_3); (try clear hcz4_4); (try clear hcz4_5); (try clear hcz4_6); (try clear hfz12_0); (try clear hfz12_1); (try clear hfz12_2); (try clear hfz12_3); (try clear hfz12_4); (try clear hfz12_5); (try clear hfz12_6); (try clear hfz4_0); (try clear hfz4_1); (try clear hfz4_2); (try clear hfz4_3); (try clear hfz4_4); (try clear hfz4_5); (try clear hfz4_6); (try clear hx102_0); (try clear hx104_0); (try clear p102); (try clear p104); (try clear q102); (try clear q104); (try clear q15); (obtain ⟨kq, x21_15, rfl, HA, HJ15, HO_6, BK101, BK103, HB⟩ := hcut)
       cases kq with
       | zero => exact absurd HA.out (by simp [impl_fieldOfWords.j0])
       | succ kj15 =>
        (have H := HA.out); clear HA; (simp only [impl_fieldOfWords.j0] at H); (by_cases c18 : x21_15 = true)
        ·subst c18
         (rw [if_pos rfl] at H); (have HC19 := Aside0.mk H); clear H; (have hnb20 := NB103_101.out); (have hnc20 := NB101_103.out); (have hcz21_0 := cz BK103.out 0); (have hcz21_1 := cz BK103.out 1); (have hcz21_2 := cz BK103.out 2); (have hcz21_3 := cz BK103.out 3); (have hcz21_4 := cz BK103.out 4); (have hcz21_5 := cz BK103.out 5); (have hcz21_6 := cz BK103.out 6); (have hfz21_0 := blk_frozen BK103.out 0); (have hfz21_1 := blk_frozen BK103.out 1); (have hfz21_2 := blk_frozen BK103.out 2); (have hfz21_3 := blk_frozen BK103.out 3); (have hfz21_4 := blk_frozen BK103.out 4); (have hfz21_5 := blk_frozen BK103.out 5); (have hfz21_6 := blk_frozen BK103.out 6); (go_upto_if 26 with (fail)); (go_cut [] (fun wc => ∃ (kq : Nat) (x104001_18 : Int), Aside0 (impl_fieldOfWords.j1 kq y105 (rdOf ByteArray.empty l0 0) x104001_18 0 0 false (⟨#[]⟩ : ByteArray) = some (r1, r2, r3, r4, r5, r6, r7, r8)) ∧ Aside0 (kq ≤ kj15) ∧ Aside0 (Kd.V Kd.string 9 wc w.heap.size (fun k_ => (P0_ k_ ∨ w.heap.size ≤ k_) ∧ k_ ≠ gb101 ∧ k_ ≠ gb103) (.slice A15 y105.length c15) y105) ∧ Aside0 (wc.heap[gb101]? = some (.cells #[.string (⟨#[]⟩ : ByteArray), .int .i64 0, .int .i64 0, .int .i64 0, (.slice none 0 0), .bool false, .string (⟨#[]⟩ : ByteArray)] 54 (0, 0))) ∧ Aside0 (wc.heap[gb103]? = some (.cells #[.string (rdOf ByteArray.empty l0 0), .int .i64 x104001_18, .int .i64 0, .int .i64 0, (.slice none 0 0), .bool false, .string (⟨#[]⟩ : ByteArray)] 54 (0, 0))) ∧ Aside0 (Below w.heap.size w wc)))
         case first =>
          (have H := HC19.out); clear HC19; (by_cases c22 : (rdOf ByteArray.empty l0 1).toList = ([116, 101, 120, 116] : List UInt8))
          ·rw [if_pos c22] at H
           (have c22b0 : ((rdOf ByteArray.empty l0 1).toList == ([116, 101, 120, 116] : List UInt8)) = true := beq_iff_eq.mpr c22); (have c22b1 : ((rdOf ByteArray.empty l0 1).toList != ([116, 101, 120, 116] : List UInt8)) = false := bne_eq_false_iff_eq.mpr c22); clear c22; ((first | rw [c22b0] | (simp only [i64_w, i32_w]; rw [c22b0]) | skip)); (have H' := Aside0.mk H); clear H; (have hnb23 := NB103_101.out); (have hnc23 := NB101_103.out); (have hcz24_0 := cz BK103.out 0); (have hcz24_1 := cz BK103.out 1); (have hcz24_2 := cz BK103.out 2); (have hcz24_3 := cz BK103.out 3); (have hcz24_4 := cz BK103.out 4); (have hcz24_5 := cz BK103.out 5); (have hcz24_6 := cz BK103.out 6); (have hfz24_0 := blk_frozen BK103.out 0); (have hfz24_1 := blk_frozen BK103.out 1); (have hfz24_2 := blk_frozen BK103.out 2); (have hfz24_3 := blk_frozen BK103.out 3); (have hfz24_4 := blk_frozen BK103.out 4); (have hfz24_5 := blk_frozen BK103.out 5); (have hfz24_6 := blk_frozen BK103.out 6); (go_wp2); (go_meet)
           case rel => exact ⟨_, (2), H', ⟨Q173⟩, ⟨by (with_reducible repeat (first | apply Kd.V_alloc | apply Kd.V_drewN | apply Kd.V_drew)); exact Kd.V_mono (Kd.V_far (p := ⟨gb103, 1, none⟩) (Kd.V_far (p := ⟨gb103, 1, none⟩) (Kd.V_mono HO_6.out (fun k_ hk => (⟨hk, hk.2.2⟩ : _ ∧ k_ ≠ gb103))) (fun _ hk => hk.2) (.int .i64 1)) (fun _ hk => hk.2) (.int .i64 2)) (fun _ hk => ⟨hk.1.1, ⟨hk.1.2.1, hk.1.2.2⟩⟩)⟩, ⟨by (with_reducible repeat (first | refine kN ?_ _ | refine kD ?_ | refine kA ?_ _)); refine blk_far ?_ NB101_103.out _; (with_reducible repeat (first | refine kN ?_ _ | refine kD ?_ | refine kA ?_ _)); refine blk_far ?_ NB101_103.out _; (with_reducible repeat (first | refine kN ?_ _ | refine kD ?_ | refine kA ?_ _)); exact BK101.out⟩, ⟨by (with_reducible repeat (first | refine kN ?_ _ | refine kD ?_ | refine kA ?_ _)); refine blk_put (cs := #[.string (rdOf ByteArray.empty l0 0), .int .i64 1, .int .i64 0, .int .i64 0, .slice none 0 0, .bool false, .string (⟨#[]⟩ : ByteArray)]) ?_ 1 _ rfl; (with_reducible repeat (first | refine kN ?_ _ | refine kD ?_ | refine kA ?_ _)); refine blk_put (cs := #[.string (rdOf ByteArray.empty l0 0), .int .i64 0, .int .i64 0, .int .i64 0, .slice none 0 0, .bool false, .string (⟨#[]⟩ : ByteArray)]) ?_ 1 _ rfl; (with_reducible repeat (first | refine kN ?_ _ | refine kD ?_ | refine kA ?_ _)); exact BK103.out⟩, ⟨Q171⟩⟩
          ·rw [if_neg c22] at H
           (have c22b0 : ((rdOf ByteArray.empty l0 1).toList == ([116, 101, 120, 116] : List UInt8)) = false := beq_eq_false_iff_ne.mpr c22); (have c22b1 : ((rdOf ByteArray.empty l0 1).toList != ([116, 101, 120, 116] : List UInt8)) = true := bne_iff_ne.mpr c22); ((first | rw [c22b0] | (simp only [i64_w, i32_w]; rw [c22b0]) | skip)); (have H' := Aside0.mk H); clear H; (go_wp2); (go_meet)
           case rel => exact ⟨_, (1), H', ⟨Q173⟩, ⟨by (with_reducible repeat (first | apply Kd.V_alloc | apply Kd.V_drewN | apply Kd.V_drew)); exact Kd.V_mono (Kd.V_far (p := ⟨gb103, 1, none⟩) (Kd.V_mono HO_6.out (fun k_ hk => (⟨hk, hk.2.2⟩ : _ ∧ k_ ≠ gb103))) (fun _ hk => hk.2) (.int .i64 1)) (fun _ hk => ⟨hk.1.1, ⟨hk.1.2.1, hk.1.2.2⟩⟩)⟩, ⟨Q174⟩, ⟨Q175⟩, ⟨Q171⟩⟩
         case rest =>
          clear HC19; (try clear c1); (try clear p1); (try clear q1); (try clear hx1); (try clear qi1); (try clear c2); (try clear c2b0); (try clear c2b1); (try clear p2); (try clear c3); (try clear c5); (try clear c5b0); (try clear c5b1); (try clear c6); (try clear c6b0); (try clear c6b1); (try clear c7); (try clear c7b0); (try clear c7b1); (try clear p10); (try clear q10); (try clear hx10); (try clear qi10); (try clear c11); (try clear c15); (try clear q15); (try clear c17); (try clear c17b0); (try clear c17b1); (try clear c18); (try clear c20); (try clear c22); (try clear c22b0); (try clear c22b1); (try clear c23); (try clear hcz12_0); (try clear hcz12_1); (try clear hcz12_2); (try clear hcz12_3); (try clear hcz12_4); (try clear hcz12_5); (try clear hcz12_6); (try clear hcz21_0); (try clear hcz21_1); (try clear hcz21_2); (try clear hcz21_3); (try clear hcz21_4); (try clear hcz21_5); (try clear hcz21_6); (try clear hcz24_0); (try clear hcz24_1); (try clear hcz24_2); (try clear hcz24_3); (try clear hcz24_4); (try clear hcz24_5); (try clear hcz24_6); (try clear hcz4_0); (try clear hcz4_1); (try clear hcz4_2); (try clear hcz4_3); (try clear hcz4_4); (try clear hcz4_5); (try clear hcz4_6); (try clear hfz12_0); (try clear hfz12_1); (try clear hfz12_2); (try clear hfz12_3); (try clear hfz12_4); (try clear hfz12_5); (try clear hfz12_6); (try clear hfz21_0); (try clear hfz21_1); (try clear hfz21_2); (try clear hfz21_3); (try clear hfz21_4); (try clear hfz21_5); (try clear hfz21_6); (try clear hfz24_0); (try clear hfz24_1); (try clear hfz24_2); (try clear hfz24_3); (try clear hfz24_4); (try clear hfz24_5); (try clear hfz24_6); (try clear hfz4_0); (try clear hfz4_1); (try clear hfz4_2); (try clear hfz4_3); (try clear hfz4_4); (try clear hfz4_5); (try clear hfz4_6); (try clear hx102_0); (try clear hx104_0); (try clear p1); (try clear p10); (try clear p102); (try clear p104); (try clear p2); (try clear q1); (try clear q10); (try clear q102); (try clear q104); (try clear q15); (obtain ⟨kq, x104001_18, HA, HJ18, HO_6, BK101, BK103, HB⟩ := hcut)
          cases kq with
          | zero => exact absurd HA.out (by simp [impl_fieldOfWords.j1])
          | succ kj18 =>
           (have H := HA.out); clear HA; (simp only [impl_fieldOfWords.j1] at H); (by_cases c25 : (y105.length : Int) < 2)
           ·rw [if_pos c25] at H
            (have c25b0 : decide ((y105.length : Int) < 2) = true := decide_eq_true c25); (have c25b1 : decide (y105.length < 2) = true := decide_eq_true (by omega)); clear c25; (simp only [Option.some.injEq, Prod.mk.injEq] at H); (obtain ⟨rfl, rfl, rfl, rfl, rfl, rfl, rfl, rfl⟩ := H); (have hnb26 := NB101_103.out); (have hnc26 := NB103_101.out); (have hcz27_0 := cz BK101.out 0); (have hcz27_1 := cz BK101.out 1); (have hcz27_2 := cz BK101.out 2); (have hcz27_3 := cz BK101.out 3); (have hcz27_4 := cz BK101.out 4); (have hcz27_5 := cz BK101.out 5); (have hcz27_6 := cz BK101.out 6); (have hfz27_0 := blk_frozen BK101.out 0); (have hfz27_1 := blk_frozen BK101.out 1); (have hfz27_2 := blk_frozen BK101.out 2); (have hfz27_3 := blk_frozen BK101.out 3); (have hfz27_4 := blk_frozen BK101.out 4); (have hfz27_5 := blk_frozen BK101.out 5); (have hfz27_6 := blk_frozen BK101.out 6); (go_wp2); (refine bodyPost_ret (results_ct rfl _ _ gb101 54 #[.string (⟨#[]⟩ : ByteArray), .int .i64 0, .int .i64 0, .int .i64 0, .slice none 0 0, .bool false, .string (⟨#[]⟩ : ByteArray)] (0, 0) _ rfl Q168 Tryd.underlying54 rfl (by kernel_rfl)) rfl ?_); (exact ⟨_, Q97, Q127, Q171⟩)
           ·rw [if_neg c25] at H
            (have c25b0 : decide ((y105.length : Int) < 2) = false := decide_eq_false c25); (have c25b1 : decide (y105.length < 2) = false := decide_eq_false (by omega)); clear c25; (by_cases c28 : 0 < (y105.length : Int))
            ·rw [if_pos c28] at H
             (have c28b0 : decide (0 < (y105.length : Int)) = true := decide_eq_true c28); (have c28b1 : decide (0 < y105.length) = true := decide_eq_true (by omega)); clear c28; (replace H := Option.bind_eq_some_iff.mp H); (obtain ⟨⟨t111, t112⟩, A290, H⟩ := H); (replace H : (if 1 < (y105.length : Int) then ((impl_ParseInt.f (rdOf ByteArray.empty y105 1)).bind fun bt114 => (if 2 ≤ (y105.length : Int) then (impl_fieldOfWords.j3 kj18 (y105.drop 2) (rdOf ByteArray.empty l0 0) x104001_18 t111 bt114.1 ([] : List ByteArray) false (⟨#[]⟩ : ByteArray)) else (none))) else (none)) = some (r1, r2, r3, r4, r5, r6, r7, r8) := H); (have A29 := Aside0.mk A290); clear A290; (by_cases c30 : 1 < (y105.length : Int))
             ·rw [if_pos c30] at H
              (have c30b0 : decide (1 < (y105.length : Int)) = true := decide_eq_true c30); (have c30b1 : decide (1 < y105.length) = true := decide_eq_true (by omega)); clear c30; (replace H := Option.bind_eq_some_iff.mp H); (obtain ⟨⟨t114, t115⟩, A310, H⟩ := H); (replace H : (if 2 ≤ (y105.length : Int) then (impl_fieldOfWords.j3 kj18 (y105.drop 2) (rdOf ByteArray.empty l0 0) x104001_18 t111 t114 ([] : List ByteArray) false (⟨#[]⟩ : ByteArray)) else (none)) = some (r1, r2, r3, r4, r5, r6, r7, r8) := H); (have A31 := Aside0.mk A310); clear A310; (by_cases c32 : 2 ≤ (y105.length : Int))
              ·rw [if_pos c32] at H
               (have c32b0 := eq_true c32); (have c32b1 : decide (2 ≤ (y105.length : Int)) = true := decide_eq_true c32); clear c32; (obtain ⟨y116, hy116⟩ : ∃ y_ : List ByteArray, y_ = (y105.drop 2) := ⟨_, rfl⟩); (replace H : (impl_fieldOfWords.j3 kj18 y116 (rdOf ByteArray.empty l0 0) x104001_18 t111 t114 ([] : List ByteArray) false (⟨#[]⟩ : ByteArray)) = some (r1, r2, r3, r4, r5, r6, r7, r8) := by first | (rw [hy116]; with_reducible exact H) | (have H2_ := (Option.bind_some _ _).symm.trans H; rw [hy116]; with_reducible exact H2_) | (have H2_ := (Option.bind_some _ _).symm.trans H; with_reducible exact H2_) | with_reducible exact H | (rw [hy116]; exact H) | exact H); (have Ny116 := Aside0.mk hy116); clear hy116; (have H' := Aside0.mk H); clear H; (have p110 : 0 ≤ (0 : Int) := (by omega)); (have q110 : 0 < (y105.length : Int) := of_decide_eq_true Q32); (obtain ⟨ad110, e110, hx110_0⟩ := Kd.at_string (Kd.V_reads' HO_6.out).2.2 0 p110 q110); (cases e110); (have qi110 : (0 < y105.length) = True := eq_true (by omega)); ((try rw [show ((0 : Int)).toNat = 0 from rfl] at hx110_0)); ((try rw [Addr.add_zero'] at hx110_0)); (replace p110 := eq_true p110); (replace q110 := eq_true q110)
               go_wp2_with (first | ((with_reducible refine gate_callee (f := 55) rfl ?_); refine gL (some 36) Tryd.func55 #[.string (rdOf ByteArray.empty y105 0)] ?_; (with_reducible refine (impl_ParseInt.calls (rdOf ByteArray.empty y105 0) t111 t112 _ ?side1 A29.out).mono ?_); (case side1 => first | exact Q176 | (repeat (first | exact HG.out | (with_reducible first | apply GE.drewN | apply GE.drew | apply GE.alloc)))); rintro e w33 ⟨rfl, hb⟩; refine ⟨_, rfl, ?_⟩; have n0_ := Aside0.mk (Kd.V_below Q177 hb); have n1_ := Aside0.mk (blk_below Q170 hb); have n2_ := Aside0.mk (blk_below Q34 hb); have n3_ := Aside0.mk (below_step Q171 hb); clear HO_6 BK101 BK103 HB; have HO_6 := n0_; have BK101 := n1_; have BK103 := n2_; have HB := n3_; clear n0_ n1_ n2_ n3_; (try clear hb); (try clear hb2); (try clear hk); (try clear hi); have hnb34 := NB103_101.out; have hnc34 := NB101_103.out; have hcz35_0 := cz BK103.out 0; have hcz35_1 := cz BK103.out 1; have hcz35_2 := cz BK103.out 2; have hcz35_3 := cz BK103.out 3; have hcz35_4 := cz BK103.out 4; have hcz35_5 := cz BK103.out 5; have hcz35_6 := cz BK103.out 6; have hfz35_0 := blk_frozen BK103.out 0; have hfz35_1 := blk_frozen BK103.out 1; have hfz35_2 := blk_frozen BK103.out 2; have hfz35_3 := blk_frozen BK103.out 3; have hfz35_4 := blk_frozen BK103.out 4; have hfz35_5 := blk_frozen BK103.out 5; have hfz35_6 := blk_frozen BK103.out 6; have p113 : 0 ≤ (1 : Int) := (by omega); have q113 : 1 < (y105.length : Int) := of_decide_eq_true Q32; obtain ⟨ad113, e113, hx113_0⟩ := Kd.at_string (Kd.V_reads' HO_6.out).2.2 1 p113 q113; obtain rfl : ad110 = ad113 := (by injection e113); (try simp only [show (1 : Int).toNat = 1 from rfl, Nat.reduceMul, Nat.reduceEqDiff, Go.Addr.add, ↓reduceIte] at hx113_0); have qi113 : (1 < y105.length) = True := eq_true (by omega); (try rw [show ((1 : Int)).toNat = 1 from rfl] at hx113_0); have hn113_0 : ad110.block ≠ gb103 := (by have hk := Kd.F_in (Kd.V_F HO_6.out) rfl (by omega) (by decide); first | exact hk.2.2 | exact hk.2 | exact hk.1.2); replace hx113_0 := (cell_far (p := ⟨gb103, 2, none⟩) (by first | (rw [add_block]; exact hn113_0) | (show (Addr.add _ _).block ≠ _; rw [add_block]; exact hn113_0) | exact hn113_0) (.int .i64 t111)).trans hx113_0; clear hn113_0; replace p113 := eq_true p113; replace q113 := eq_true q113) | ((with_reducible refine gate_callee (f := 55) rfl ?_); refine gL (some 44) Tryd.func55 #[.string (rdOf ByteArray.empty y105 1)] ?_; (with_reducible refine (impl_ParseInt.calls (rdOf ByteArray.empty y105 1) t114 t115 _ ?side1 A31.out).mono ?_); (case side1 => first | exact Q176 | (repeat (first | exact HG.out | (with_reducible first | apply GE.drewN | apply GE.drew | apply GE.alloc)))); rintro e w36 ⟨rfl, hb⟩; refine ⟨_, rfl, ?_⟩; have n0_ := Aside0.mk (Kd.V_below (by (with_reducible repeat (first | apply Kd.V_alloc | apply Kd.V_drewN | apply Kd.V_drew)); exact (Kd.V_mono (Kd.V_far (p := ⟨gb103, 2, none⟩) (Kd.V_mono HO_6.out (fun k_ hk => (⟨hk, hk.2.2⟩ : _ ∧ k_ ≠ gb103))) (fun _ hk => hk.2) (.int .i64 t111)) (fun _ h_ => h_.1))) hb); have n1_ := Aside0.mk (blk_below (g := gb101) (o := .cells #[.string (⟨#[]⟩ : ByteArray), .int .i64 0, .int .i64 0, .int .i64 0, .slice none 0 0, .bool false, .string (⟨#[]⟩ : ByteArray)] 54 (0, 0)) Q174 hb); have n2_ := Aside0.mk (blk_below (g := gb103) (o := .cells #[.string (rdOf ByteArray.empty l0 0), .int .i64 x104001_18, .int .i64 t111, .int .i64 0, .slice none 0 0, .bool false, .string (⟨#[]⟩ : ByteArray)] 54 (0, 0)) (by (with_reducible repeat (first | refine kN ?_ _ | refine kD ?_ | refine kA ?_ _)); refine blk_put (cs := #[.string (rdOf ByteArray.empty l0 0), .int .i64 x104001_18, .int .i64 0, .int .i64 0, .slice none 0 0, .bool false, .string (⟨#[]⟩ : ByteArray)]) ?_ 2 _ rfl; (with_reducible repeat (first | refine kN ?_ _ | refine kD ?_ | refine kA ?_ _)); exact BK103.out) hb); have n3_ := Aside0.mk (below_step Q171 hb); clear HO_6 BK101 BK103 HB; have HO_6 := n0_; have BK101 := n1_; have BK103 := n2_; have HB := n3_; clear n0_ n1_ n2_ n3_; (try clear hb); (try clear hb2); (try clear hk); (try clear hi); have hcz37_0 := cz BK103.out 0; have hcz37_1 := cz BK103.out 1; have hcz37_2 := cz BK103.out 2; have hcz37_3 := cz BK103.out 3; have hcz37_4 := cz BK103.out 4; have hcz37_5 := cz BK103.out 5; have hcz37_6 := cz BK103.out 6; have hfz37_0 := blk_frozen BK103.out 0; have hfz37_1 := blk_frozen BK103.out 1; have hfz37_2 := blk_frozen BK103.out 2; have hfz37_3 := blk_frozen BK103.out 3; have hfz37_4 := blk_frozen BK103.out 4; have hfz37_5 := blk_frozen BK103.out 5; have hfz37_6 := blk_frozen BK103.out 6) | ((with_reducible refine gate_store (t := 3) (p := 47) rfl ?_); refine store_event (t := 3) (p := 47) (v := ?vo_w38) (w1 := (w36.setCell ⟨gb103, 3, none⟩ (.int .i64 t114))) ?hg ?ho ?hn ?hr ?_; (case ho => rfl); (case hg => rfl); (case hn => rfl); (case hr => first | (go_simp; done) | (go_simp; rfl)); intro w38 hw; have n0_ : Aside0 (Kd.V Kd.string 9 w38 w.heap.size (fun k_ => (P0_ k_ ∨ w.heap.size ≤ k_) ∧ k_ ≠ gb101 ∧ k_ ≠ gb103) (.slice (some ad110) y105.length c15) y105) := ⟨(by rw [hw]; exact (by (with_reducible repeat (first | apply Kd.V_alloc | apply Kd.V_drewN | apply Kd.V_drew)); exact Kd.V_mono (Kd.V_far (p := ⟨gb103, 3, none⟩) (Kd.V_mono HO_6.out (fun k_ hk => (⟨hk, hk.2.2⟩ : _ ∧ k_ ≠ gb103))) (fun _ hk => hk.2) (.int .i64 t114)) (fun _ hk => ⟨hk.1.1, ⟨hk.1.2.1, hk.1.2.2⟩⟩)))⟩; have n1_ : Aside0 (w38.heap[gb101]? = some (.cells #[.string (⟨#[]⟩ : ByteArray), .int .i64 0, .int .i64 0, .int .i64 0, .slice none 0 0, .bool false, .string (⟨#[]⟩ : ByteArray)] 54 (0, 0))) := ⟨Q178⟩; have n2_ : Aside0 (w38.heap[gb103]? = some (.cells #[.string (rdOf ByteArray.empty l0 0), .int .i64 x104001_18, .int .i64 t111, .int .i64 t114, .slice none 0 0, .bool false, .string (⟨#[]⟩ : ByteArray)] 54 (0, 0))) := ⟨(by rw [hw]; exact (by (with_reducible repeat (first | refine kN ?_ _ | refine kD ?_ | refine kA ?_ _)); refine blk_put (cs := #[.string (rdOf ByteArray.empty l0 0), .int .i64 x104001_18, .int .i64 t111, .int .i64 0, .slice none 0 0, .bool false, .string (⟨#[]⟩ : ByteArray)]) ?_ 3 _ rfl; (with_reducible repeat (first | refine kN ?_ _ | refine kD ?_ | refine kA ?_ _)); exact BK103.out))⟩; have n3_ : Aside0 (Below w.heap.size w w38) := ⟨Q179⟩; clear hw HO_6 BK101 BK103 HB; have HO_6 := n0_; have BK101 := n1_; have BK103 := n2_; have HB := n3_; clear n0_ n1_ n2_ n3_; have q39 : (2 : Int) ≤ ((y105.length : Int) : Int) := of_decide_eq_true Q32; obtain ⟨i039, hi039, _, hsz39, _⟩ := info_parts info9; have hroom39 : y105.length ≤ c15 := (Kd.V_reads' HO_6.out).2.1; have hC39 : Kd.F Kd.string _ _ (some ad110) y105.length y105 := (Kd.V_at (base := w.heap.size) HO_6.out).2.2; have hcut39 := cut_from (P := Tryd.prog) 42 9 .i64 Tryd.underlying42 hi039 1 hsz39 (some ad110) y105.length c15 2 (by omega) q39; have hr39 := Kd.F_cut (m := (2 : Int).toNat) (c := c15) hC39 (by omega) hroom39; obtain ⟨A39, hA39⟩ : ∃ A1, A1 = (if c15 = (2 : Int).toNat then (some ad110) else ((some ad110) : Option Addr).map (·.add ((2 : Int).toNat * 1))) := ⟨_, rfl⟩; obtain ⟨c39, hc39⟩ : ∃ c1, c1 = c15 - (2 : Int).toNat := ⟨_, rfl⟩; have hy39 : y116.length = y105.length - (2 : Int).toNat := (by rw [Ny116.out, List.length_drop] <;> omega); rw [show (y105).drop (2 : Int).toNat = y116 from Ny116.out.symm] at hr39; replace hr39 : Kd.F Kd.string _ _ A39 y116.length y116 := (by rw [hA39]; exact hr39); rw [← hy39, ← hA39, ← hc39] at hcut39; have HO120 := Aside0.mk (show Kd.V Kd.string 9 _ w.heap.size _ (.slice A39 y116.length c39) y116 from Kd.V_mk (by rw [hy39, hc39]; exact Nat.sub_le_sub_right hroom39 _) hr39); have HC120 := Aside0.mk (show y116.length ≤ c39 from by rw [hy39, hc39]; exact Nat.sub_le_sub_right hroom39 _); clear hr39 hC39 hroom39 hi039 hsz39 hc39; have KY39 := Aside0.mk hy39; have KA39 := Aside0.mk hA39; clear hy39 hA39; replace q39 := eq_true q39))
               go_meet
               case rel => exact ⟨_, (y116), ((⟨#[]⟩ : ByteArray)), (0), (0), (0), (false), ((⟨#[]⟩ : ByteArray)), (x104001_18), (t111), (t114), (([] : List ByteArray)), (.slice none 0 0), H', ⟨by have := HJ15.out; have := HJ18.out; first | omega | exact Q85⟩, ⟨by (with_reducible repeat (first | apply Kd.V_alloc | apply Kd.V_drewN | apply Kd.V_drew)); exact Kd.V_mono HO120.out (fun _ hk => ⟨hk.1, ⟨Q126, ⟨hk.2.1, hk.2.2⟩⟩⟩)⟩, ⟨Q127⟩, ⟨Q170⟩, ⟨Q34⟩, ⟨Q171⟩⟩
              ·rw [if_neg c32] at H
               exact Q3
             ·rw [if_neg c30] at H
              exact Q3
            ·rw [if_neg c28] at H
             exact Q3
        ·replace c18 := Bool.eq_false_iff.mpr c18
         subst c18; (rw [if_neg (show ¬ (false = true) by decide)] at H); (by_cases c40 : (rdOf ByteArray.empty l0 1).toList = ([99, 104, 111, 105, 99, 101] : List UInt8))
         ·rw [if_pos c40] at H
          (have c40b0 : ((rdOf ByteArray.empty l0 1).toList == ([99, 104, 111, 105, 99, 101] : List UInt8)) = true := beq_iff_eq.mpr c40); (have c40b1 : ((rdOf ByteArray.empty l0 1).toList != ([99, 104, 111, 105, 99, 101] : List UInt8)) = false := bne_eq_false_iff_eq.mpr c40); clear c40; (have H' := Aside0.mk H); clear H; (have hnb41 := NB103_101.out); (have hnc41 := NB101_103.out); (have hcz42_0 := cz BK103.out 0); (have hcz42_1 := cz BK103.out 1); (have hcz42_2 := cz BK103.out 2); (have hcz42_3 := cz BK103.out 3); (have hcz42_4 := cz BK103.out 4); (have hcz42_5 := cz BK103.out 5); (have hcz42_6 := cz BK103.out 6); (have hfz42_0 := blk_frozen BK103.out 0); (have hfz42_1 := blk_frozen BK103.out 1); (have hfz42_2 := blk_frozen BK103.out 2); (have hfz42_3 := blk_frozen BK103.out 3); (have hfz42_4 := blk_frozen BK103.out 4); (have hfz42_5 := blk_frozen BK103.out 5); (have hfz42_6 := blk_frozen BK103.out 6); (go_wp2); (go_loopg [6] kj15 (fun kq v6 w' => ∃ (x6_2 : List ByteArray) (x104004_2 : List ByteArray) (u104004 : Value), Aside0 (impl_fieldOfWords.l0 kq x6_2 (rdOf ByteArray.empty l0 0) 3 0 0 x104004_2 false (⟨#[]⟩ : ByteArray) = some (r1, r2, r3, r4, r5, r6, r7, r8)) ∧ Aside0 (kq ≤ kj15) ∧ Aside0 (Kd.V Kd.string 9 w' w.heap.size (fun k_ => (P0_ k_ ∨ w.heap.size ≤ k_) ∧ some k_ ≠ (u104004 : Value).ownBlock ∧ k_ ≠ gb101 ∧ k_ ≠ gb103) v6 x6_2) ∧ Aside0 (Kd.R Kd.string 9 w' w.heap.size (fun k_ => (w.heap.size ≤ k_)) u104004 x104004_2) ∧ Aside0 (w'.heap[gb101]? = some (.cells #[.string (⟨#[]⟩ : ByteArray), .int .i64 0, .int .i64 0, .int .i64 0, (.slice none 0 0), .bool false, .string (⟨#[]⟩ : ByteArray)] 54 (0, 0))) ∧ Aside0 (w'.heap[gb103]? = some (.cells #[.string (rdOf ByteArray.empty l0 0), .int .i64 3, .int .i64 0, .int .i64 0, u104004, .bool false, .string (⟨#[]⟩ : ByteArray)] 54 (0, 0))) ∧ Aside0 (Below w.heap.size w w')))
          case atStart => exact ⟨(y105), (([] : List ByteArray)), (.slice none 0 0), H', ⟨Nat.le_refl _⟩, ⟨by (with_reducible repeat (first | apply Kd.V_alloc | apply Kd.V_drewN | apply Kd.V_drew)); exact Kd.V_mono (Kd.V_far (p := ⟨gb103, 1, none⟩) (Kd.V_mono HO_6.out (fun k_ hk => (⟨hk, hk.2.2⟩ : _ ∧ k_ ≠ gb103))) (fun _ hk => hk.2) (.int .i64 3)) (fun _ hk => ⟨hk.1.1, ⟨Q126, ⟨hk.1.2.1, hk.1.2.2⟩⟩⟩)⟩, ⟨Q127⟩, ⟨Q174⟩, ⟨Q175⟩, ⟨Q171⟩⟩
          case round =>
           (clear H'); (try clear c1); (try clear p1); (try clear q1); (try clear hx1); (try clear qi1); (try clear c2); (try clear c2b0); (try clear c2b1); (try clear p2); (try clear c3); (try clear q3); (try clear c4); (try clear c5); (try clear c5b0); (try clear c5b1); (try clear c6); (try clear c6b0); (try clear c6b1); (try clear c7); (try clear c7b0); (try clear c7b1); (try clear p10); (try clear q10); (try clear hx10); (try clear qi10); (try clear c11); (try clear p11); (try clear q11); (try clear hx11); (try clear qi11); (try clear c15); (try clear q15); (try clear c17); (try clear c17b0); (try clear c17b1); (try clear c18); (try clear c20); (try clear c22); (try clear c22b0); (try clear c22b1); (try clear c23); (try clear c25); (try clear c25b0); (try clear c25b1); (try clear c26); (try clear c28); (try clear c28b0); (try clear c28b1); (try clear c30); (try clear c30b0); (try clear c30b1); (try clear c32); (try clear c32b0); (try clear c32b1); (try clear c34); (try clear c39); (try clear q39); (try clear c40); (try clear c40b0); (try clear c40b1); (try clear c41); (try clear hcz12_0); (try clear hcz12_1); (try clear hcz12_2); (try clear hcz12_3); (try clear hcz12_4); (try clear hcz12_5); (try clear hcz12_6); (try clear hcz21_0); (try clear hcz21_1); (try clear hcz21_2); (try clear hcz21_3); (try clear hcz21_4); (try clear hcz21_5); (try clear hcz21_6); (try clear hcz24_0); (try clear hcz24_1); (try clear hcz24_2); (try clear hcz24_3); (try clear hcz24_4); (try clear hcz24_5); (try clear hcz24_6); (try clear hcz27_0); (try clear hcz27_1); (try clear hcz27_2); (try clear hcz27_3); (try clear hcz27_4); (try clear hcz27_5); (try clear hcz27_6); (try clear hcz35_0); (try clear hcz35_1); (try clear hcz35_2); (try clear hcz35_3); (try clear hcz35_4); (try clear hcz35_5); (try clear hcz35_6); (try clear hcz37_0); (try clear hcz37_1); (try clear hcz37_2); (try clear hcz37_3); (try clear hcz37_4); (try clear hcz37_5); (try clear hcz37_6); (try clear hcz42_0); (try clear hcz42_1); (try clear hcz42_2); (try clear hcz42_3); (try clear hcz42_4); (try clear hcz42_5); (try clear hcz42_6); (try clear hcz4_0); (try clear hcz4_1); (try clear hcz4_2); (try clear hcz4_3); (try clear hcz4_4); (try clear hcz4_5); (try clear hcz4_6); (try clear hfz12_0); (try clear hfz12_1); (try clear hfz12_2); (try clear hfz12_3); (try clear hfz12_4); (try clear hfz12_5); (try clear hfz12_6); (try clear hfz21_0); (try clear hfz21_1); (try clear hfz21_2); (try clear hfz21_3); (try clear hfz21_4); (try clear hfz21_5); (try clear hfz21_6); (try clear hfz24_0); (try clear hfz24_1); (try clear hfz24_2); (try clear hfz24_3); (try clear hfz24_4); (try clear hfz24_5); (try clear hfz24_6); (try clear hfz27_0); (try clear hfz27_1); (try clear hfz27_2); (try clear hfz27_3); (try clear hfz27_4); (try clear hfz27_5); (try clear hfz27_6); (try clear hfz35_0); (try clear hfz35_1); (try clear hfz35_2); (try clear hfz35_3); (try clear hfz35_4); (try clear hfz35_5); (try clear hfz35_6); (try clear hfz37_0); (try clear hfz37_1); (try clear hfz37_2); (try clear hfz37_3); (try clear hfz37_4); (try clear hfz37_5); (try clear hfz37_6); (try clear hfz42_0); (try clear hfz42_1); (try clear hfz42_2); (try clear hfz42_3); (try clear hfz42_4); (try clear hfz42_5); (try clear hfz42_6); (try clear hfz4_0); (try clear hfz4_1); (try clear hfz4_2); (try clear hfz4_3); (try clear hfz4_4); (try clear hfz4_5); (try clear hfz4_6); (try clear hx102_0); (try clear hx104_0); (try clear hx110_0); (try clear hx113_0); (try clear p1); (try clear p10); (try clear p102); (try clear p104); (try clear p110); (try clear p113); (try clear p2); (try clear q1); (try clear q10); (try clear q102); (try clear q104); (try clear q110); (try clear q113); (try clear q15); (try clear q39); (obtain ⟨x6_2, x104004_2, u104004, HA, HK2, HO_6, HO_104004, BK101, BK103, HB⟩ := hrel)
           cases gk with
           | zero => exact absurd HA.out (by simp [impl_fieldOfWords.l0])
           | succ k2 =>
            (have H := HA.out); clear HA; (simp only [impl_fieldOfWords.l0] at H); (by_cases c43 : (x6_2.length : Int) > 0)
            ·rw [if_pos c43] at H
             (have c43b0 : decide (0 < (x6_2.length : Int)) = true := decide_eq_true c43); (have c43b1 : decide (0 < x6_2.length) = true := decide_eq_true (by omega)); clear c43; (by_cases c44 : 0 < (x6_2.length : Int))
             ·rw [if_pos c44] at H
              (have c44b0 : decide (0 < (x6_2.length : Int)) = true := decide_eq_true c44); (have c44b1 : decide (0 < x6_2.length) = true := decide_eq_true (by omega)); clear c44; (by_cases c45 : (rdOf ByteArray.empty x6_2 0).toList = ([110, 101, 101, 100, 101, 100] : List UInt8))
              ·rw [if_pos c45] at H
               (have c45b0 : ((rdOf ByteArray.empty x6_2 0).toList == ([110, 101, 101, 100, 101, 100] : List UInt8)) = true := beq_iff_eq.mpr c45); (have c45b1 : ((rdOf ByteArray.empty x6_2 0).toList != ([110, 101, 101, 100, 101, 100] : List UInt8)) = false := bne_eq_false_iff_eq.mpr c45); clear c45; (have H' := Aside0.mk H); clear H; (obtain ⟨Ao46, co46, eo46⟩ := Kd.V_slice HO_6.out); subst eo46; (have p121 : 0 ≤ (0 : Int) := (by omega)); (have q121 : 0 < (x6_2.length : Int) := of_decide_eq_true Q32); (obtain ⟨ad121, e121, hx121_0⟩ := Kd.at_string (Kd.V_reads' HO_6.out).2.2 0 p121 q121); (cases e121); (have qi121 : (0 < x6_2.length) = True := eq_true (by omega)); ((try rw [show ((0 : Int)).toNat = 0 from rfl] at hx121_0)); ((try rw [Addr.add_zero'] at hx121_0)); (replace p121 := eq_true p121); (replace q121 := eq_true q121); (go_wp2); (go_meet)
               case rel => exact Q180
              ·rw [if_neg c45] at H
               (have c45b0 : ((rdOf ByteArray.empty x6_2 0).toList == ([110, 101, 101, 100, 101, 100] : List UInt8)) = false := beq_eq_false_iff_ne.mpr c45); (have c45b1 : ((rdOf ByteArray.empty x6_2 0).toList != ([110, 101, 101, 100, 101, 100] : List UInt8)) = true := bne_iff_ne.mpr c45); (by_cases c47 : (rdOf ByteArray.empty x6_2 0).toList = ([105, 102] : List UInt8))
               ·rw [if_pos c47] at H
                (have c47b0 : ((rdOf ByteArray.empty x6_2 0).toList == ([105, 102] : List UInt8)) = true := beq_iff_eq.mpr c47); (have c47b1 : ((rdOf ByteArray.empty x6_2 0).toList != ([105, 102] : List UInt8)) = false := bne_eq_false_iff_eq.mpr c47); clear c47; (have H' := Aside0.mk H); clear H; (obtain ⟨Ao48, co48, eo48⟩ := Kd.V_slice HO_6.out); subst eo48; (have p121 : 0 ≤ (0 : Int) := (by omega)); (have q121 : 0 < (x6_2.length : Int) := of_decide_eq_true Q32); (obtain ⟨ad121, e121, hx121_0⟩ := Kd.at_string (Kd.V_reads' HO_6.out).2.2 0 p121 q121); (cases e121); (have qi121 : (0 < x6_2.length) = True := eq_true (by omega)); ((try rw [show ((0 : Int)).toNat = 0 from rfl] at hx121_0)); ((try rw [Addr.add_zero'] at hx121_0)); (replace p121 := eq_true p121); (replace q121 := eq_true q121); (have p122 : 0 ≤ (0 : Int) := (by omega)); (have q122 : 0 < (x6_2.length : Int) := of_decide_eq_true Q32); (obtain ⟨ad122, e122, hx122_0⟩ := Kd.at_string (Kd.V_reads' HO_6.out).2.2 0 p122 q122); (obtain rfl : ad121 = ad122 := (by injection e122)); (have qi122 : (0 < x6_2.length) = True := eq_true (by omega)); ((try rw [show ((0 : Int)).toNat = 0 from rfl] at hx122_0)); ((try rw [Addr.add_zero'] at hx122_0)); (replace p122 := eq_true p122); (replace q122 := eq_true q122); (go_wp2); (go_meet)
                case rel => exact Q180
               ·rw [if_neg c47] at H
                (have c47b0 : ((rdOf ByteArray.empty x6_2 0).toList == ([105, 102] : List UInt8)) = false := beq_eq_false_iff_ne.mpr c47); (have c47b1 : ((rdOf ByteArray.empty x6_2 0).toList != ([105, 102] : List UInt8)) = true := bne_iff_ne.mpr c47); (by_cases c49 : x104004_2.length < 8796093022208)
                ·rw [if_pos c49] at H
                 (have LMc49 := Aside0.mk c49); clear c49; (obtain ⟨y124, hy124⟩ : ∃ y_ : List ByteArray, y_ = (x104004_2 ++ [rdOf ByteArray.empty x6_2 0]) := ⟨_, rfl⟩); (replace H : (if 1 ≤ (x6_2.length : Int) then (impl_fieldOfWords.l0 k2 (x6_2.drop 1) (rdOf ByteArray.empty l0 0) 3 0 0 y124 false (⟨#[]⟩ : ByteArray)) else (none)) = some (r1, r2, r3, r4, r5, r6, r7, r8) := Q116); (have Ny124 := Aside0.mk hy124); clear hy124; (by_cases c50 : 1 ≤ (x6_2.length : Int))
                 ·rw [if_pos c50] at H
                  (have c50b0 := eq_true c50); (have c50b1 : decide (1 ≤ (x6_2.length : Int)) = true := decide_eq_true c50); clear c50; (obtain ⟨y127, hy127⟩ : ∃ y_ : List ByteArray, y_ = (x6_2.drop 1) := ⟨_, rfl⟩); (replace H : (impl_fieldOfWords.l0 k2 y127 (rdOf ByteArray.empty l0 0) 3 0 0 y124 false (⟨#[]⟩ : ByteArray)) = some (r1, r2, r3, r4, r5, r6, r7, r8) := Q159); (have Ny127 := Aside0.mk hy127); clear hy127; (have H' := Aside0.mk H); clear H; (obtain ⟨Ao51, co51, eo51⟩ := Kd.V_slice HO_6.out); subst eo51; (have p121 : 0 ≤ (0 : Int) := (by omega)); (have q121 : 0 < (x6_2.length : Int) := of_decide_eq_true Q32); (obtain ⟨ad121, e121, hx121_0⟩ := Kd.at_string (Kd.V_reads' HO_6.out).2.2 0 p121 q121); (cases e121); (have qi121 : (0 < x6_2.length) = True := eq_true (by omega)); ((try rw [show ((0 : Int)).toNat = 0 from rfl] at hx121_0)); ((try rw [Addr.add_zero'] at hx121_0)); (replace p121 := eq_true p121); (replace q121 := eq_true q121); (have p122 : 0 ≤ (0 : Int) := (by omega)); (have q122 : 0 < (x6_2.length : Int) := of_decide_eq_true Q32); (obtain ⟨ad122, e122, hx122_0⟩ := Kd.at_string (Kd.V_reads' HO_6.out).2.2 0 p122 q122); (obtain rfl : ad121 = ad122 := (by injection e122)); (have qi122 : (0 < x6_2.length) = True := eq_true (by omega)); ((try rw [show ((0 : Int)).toNat = 0 from rfl] at hx122_0)); ((try rw [Addr.add_zero'] at hx122_0)); (replace p122 := eq_true p122); (replace q122 := eq_true q122); (try go_wp2); (have n0_ := Aside0.mk (Kd.V_drew HO_6.out)); (have n1_ := Aside0.mk (Kd.R_drew HO_104004.out)); (have n2_ := Aside0.mk (blk_drew BK101.out)); (have n3_ := Aside0.mk (blk_drew BK103.out)); (have n4_ := Aside0.mk (below_drew1 HB.out)); clear HO_6 HO_104004 BK101 BK103 HB; (have HO_6 := n0_); (have HO_104004 := n1_); (have BK101 := n2_); (have BK103 := n3_); (have HB := n4_); clear n0_ n1_ n2_ n3_ n4_; (have p123 : 0 ≤ (0 : Int) := (by omega)); (have q123 : 0 < (x6_2.length : Int) := of_decide_eq_true Q32); (obtain ⟨ad123, e123, hx123_0⟩ := Kd.at_string (Kd.V_reads' HO_6.out).2.2 0 p123 q123); (obtain rfl : ad121 = ad123 := (by injection e123)); (have qi123 : (0 < x6_2.length) = True := eq_true (by omega)); ((try rw [show ((0 : Int)).toNat = 0 from rfl] at hx123_0)); ((try rw [Addr.add_zero'] at hx123_0)); (replace p123 := eq_true p123); (replace q123 := eq_true q123); (refine start_ (n := 9) (S := fun w' => w'.cell? ⟨gb103, 0, none⟩ = some (.string (rdOf ByteArray.empty l0 0)) ∧ w'.cell? ⟨gb103, 1, none⟩ = some (.int .i64 3) ∧ w'.cell? ⟨gb103, 2, none⟩ = some (.int .i64 0) ∧ w'.cell? ⟨gb103, 3, none⟩ = some (.int .i64 0) ∧ w'.cell? ⟨gb103, 4, none⟩ = some (u104004) ∧ w'.cell? ⟨gb103, 5, none⟩ = some (.bool false) ∧ w'.cell? ⟨gb103, 6, none⟩ = some (.string (⟨#[]⟩ : ByteArray)) ∧ w'.cell? ad121 = some (.string (rdOf ByteArray.empty x6_2 0))) (ds := [6, 8]) (cn 9 0) (by kernel_rfl) rfl (by kernel_rfl) ⟨(blk_cell BK103.out 0).trans rfl, (blk_cell BK103.out 1).trans rfl, (blk_cell BK103.out 2).trans rfl, (blk_cell BK103.out 3).trans rfl, (blk_cell BK103.out 4).trans rfl, (blk_cell BK103.out 5).trans rfl, (blk_cell BK103.out 6).trans rfl, hx123_0⟩ (fun hHeld => ?_); refine with_tabW impl_fieldOfWords.tab19 impl_fieldOfWords.bits19 (fun HT_ HW_ => ?_)); (generalize wr.drew = w52 at HO_6 HO_104004 BK101 BK103 HB hx123_0 hHeld ⊢); (refine pB 0 (cn 9 1) (some 68) HT_ (h := ?_)); (refine pB 2 (cb 9 5) (some 70) HT_ (h := ?_)); (refine pB 3 (cb 9 13) (some 71) HT_ (h := ?_)); (refine tB 1 (cn 9 4) (some 69) HT_ HW_ hHeld (h := ?_)); (refine tB 4 (cn 9 5) (some 72) HT_ HW_ hHeld (h := ?_)); (refine one_ (i := 5) (N := some 73) (cn 9 6) rfl rfl (one_of HT_.out (by kernel_rfl)) (by decide) (fun K hK => ?_)); (refine value_ (w1 := ?_) (v := ?_) (by rfl) rfl ?_ ?_); (rotate_left 2)
                  ·go_simp
                   (constructor); (· rfl); (· rfl)
                  (refine hK.out _ _ ⟨(blk_cell (blk_alloc BK103.out _) 0).trans rfl, (blk_cell (blk_alloc BK103.out _) 1).trans rfl, (blk_cell (blk_alloc BK103.out _) 2).trans rfl, (blk_cell (blk_alloc BK103.out _) 3).trans rfl, (blk_cell (blk_alloc BK103.out _) 4).trans rfl, (blk_cell (blk_alloc BK103.out _) 5).trans rfl, (blk_cell (blk_alloc BK103.out _) 6).trans rfl, (World.cell?_alloc_lt _ _ _ (bltc _ _ (hHeld.2.2.2.2.2.2.2))).trans (hHeld.2.2.2.2.2.2.2)⟩ (fun hHeld => ?_)); clear hK K; (refine norm_ (a' := ?_) ?_ ?_); rotate_left; (· (show Act.put _ (some 73) _ = _); (simp only [Act.put, aS1, aS2, aS3, i64_w, i32_w]); rfl); (refine last_ (i := 6) (N := some 74) (cn 9 7) rfl rfl (one_of HT_.out (by kernel_rfl)) (by decide) (fun K hK => ?_)); (refine Kd.R_append_step Kd.string (w0 := w) w.heap.size (by rfl) (.tmp 69) (.tmp 73) 42 9 (.string ⟨#[]⟩) 16 rfl Tryd.underlying42 info9 rfl (by decide) (by omega) u104004 x104004_2 (rdOf ByteArray.empty x6_2 0) [.string (rdOf ByteArray.empty x6_2 0)] (fun k_ => (w.heap.size ≤ k_)) (fun _ => False) rfl rfl ?aP (fun _ hk => hk.elim) ?aF ?aO ?aB ?aS ?aL ?_); ((case aP => exact rfl)); ((case aB => exact Q181)); ((case aF => exact (fun k_ hk => (Nat.le_trans (below_size Q171) hk)))); ((case aO => exact Q182)); ((case aS => exact (below_size Q171))); ((case aL => have := LMc49.out; omega)); intro v125 w53 ho hb hg hat; (rw [← Ny124.out] at ho); (have n0_ := Aside0.mk (Kd.V_afterv (ok := (fun k_ => (P0_ k_ ∨ w.heap.size ≤ k_) ∧ k_ ≠ gb101 ∧ k_ ≠ gb103)) (by (with_reducible repeat (first | apply Kd.V_alloc | apply Kd.V_drewN | apply Kd.V_drew)); exact Kd.V_mono HO_6.out (fun _ hk => ⟨⟨hk.1, ⟨hk.2.2.1, hk.2.2.2⟩⟩, hk.2.1⟩)) hg hat)); (have n1_ := Aside0.mk (blk_grown Q170 hg (Kd.R_ne HO_104004.out BK101.out (by decide)))); (have n2_ := Aside0.mk (blk_grown Q34 hg (Kd.R_ne HO_104004.out BK103.out (by decide)))); (have n3_ := Aside0.mk (hb)); (have n4_ := Aside0.mk (ho)); clear HO_6 BK101 BK103 HB HO_104004; (have HO_6 := n0_); (have BK101 := n1_); (have BK103 := n2_); (have HB := n3_); (have HO126 := n4_); clear n0_ n1_ n2_ n3_ n4_ ho hb hg hat; (obtain ⟨Ao54, co54, eo54⟩ := Kd.R_slice HO126.out); ((first | subst eo54 | (injection eo54 with f1_ f2_ f3_; have f4_ := f1_.symm; have f5_ := f3_.symm; clear f1_ f2_ f3_; subst f4_; subst f5_))); (refine hK.out _ _ ?_); clear hK K; (refine norm_ (a' := ?_) ?_ ?_); rotate_left; (· (show Act.put _ (some 74) _ = _); (simp only [Act.put, aS1, aS2, aS3, i64_w, i32_w]); rfl); (refine pB 7 (cn 9 8) (some 75) HT_ (h := ?_)); (refine last_ (i := 8) (N := none) (cn 9 9) rfl rfl (one_of HT_.out (by kernel_rfl)) (by decide) (fun K hK => ?_)); (have hs55 : w53.cell? ⟨gb103, 4, none⟩ = some (u104004) := (blk_cell BK103.out 4).trans rfl); (have hfs55 := blk_frozen BK103.out 4); (have hns55_0 := NB101_103.out); (have hms55_0 := NB103_101.out); (refine skip_ (w1 := ?_) (by rfl) rfl ?_ ?_); rotate_left; (· go_simp; rfl); (refine hK.out _ _ ?_); clear hK K; (refine done_ (done_of HT_.out (by kernel_rfl)) ?_); (have n0_ : Aside0 (Kd.V Kd.string 9 (w53.setCell ⟨gb103, 4, none⟩ (.slice Ao54 y124.length co54)) w.heap.size (fun k_ => (P0_ k_ ∨ w.heap.size ≤ k_) ∧ some k_ ≠ (.slice Ao54 y124.length co54 : Value).ownBlock ∧ k_ ≠ gb101 ∧ k_ ≠ gb103) (.slice (some ad121) x6_2.length co51) x6_2) := ⟨by (with_reducible repeat (first | apply Kd.V_alloc | apply Kd.V_drewN | apply Kd.V_drew)); exact Kd.V_mono (Kd.V_far (p := ⟨gb103, 4, none⟩) (Kd.V_mono HO_6.out (fun k_ hk => (⟨hk, hk.1.2.2⟩ : _ ∧ k_ ≠ gb103))) (fun _ hk => hk.2) (.slice Ao54 y124.length co54)) (fun _ hk => ⟨hk.1.1.1, ⟨hk.1.2, ⟨hk.1.1.2.1, hk.1.1.2.2⟩⟩⟩)⟩); (have n1_ : Aside0 (Kd.R Kd.string 9 (w53.setCell ⟨gb103, 4, none⟩ (.slice Ao54 y124.length co54)) w.heap.size (fun k_ => (w.heap.size ≤ k_)) (.slice Ao54 y124.length co54) y124) := ⟨by (with_reducible repeat (first | apply rA | apply rN | apply rD)); exact Kd.R_mono (Kd.R_far (p := ⟨gb103, 4, none⟩) (Kd.R_types HO126.out BK103.out (by decide)) (fun _ hk => hk.2) (.slice Ao54 y124.length co54)) (fun _ hk => hk.1)⟩); (have n2_ : Aside0 ((w53.setCell ⟨gb103, 4, none⟩ (.slice Ao54 y124.length co54)).heap[gb101]? = some (.cells #[.string (⟨#[]⟩ : ByteArray), .int .i64 0, .int .i64 0, .int .i64 0, .slice none 0 0, .bool false, .string (⟨#[]⟩ : ByteArray)] 54 (0, 0))) := ⟨Q174⟩)
                  (have n3_ : Aside0 ((w53.setCell ⟨gb103, 4, none⟩ (.slice Ao54 y124.length co54)).heap[gb103]? = some (.cells #[.string (rdOf ByteArray.empty l0 0), .int .i64 3, .int .i64 0, .int .i64 0, .slice Ao54 y124.length co54, .bool false, .string (⟨#[]⟩ : ByteArray)] 54 (0, 0))) := ⟨by (with_reducible repeat (first | refine kN ?_ _ | refine kD ?_ | refine kA ?_ _)); refine blk_put (cs := #[.string (rdOf ByteArray.empty l0 0), .int .i64 3, .int .i64 0, .int .i64 0, u104004, .bool false, .string (⟨#[]⟩ : ByteArray)]) ?_ 4 _ rfl; (with_reducible repeat (first | refine kN ?_ _ | refine kD ?_ | refine kA ?_ _)); exact BK103.out⟩); (have n4_ : Aside0 (Below w.heap.size w (w53.setCell ⟨gb103, 4, none⟩ (.slice Ao54 y124.length co54))) := ⟨Q171⟩); ((try clear HO_6)); ((try clear HO126)); ((try clear BK101)); ((try clear BK103)); ((try clear HB)); (generalize (w53.setCell ⟨gb103, 4, none⟩ (.slice Ao54 y124.length co54)) = w56 at n0_ n1_ n2_ n3_ n4_ ⊢); (have HO_6 := n0_); (have HO126 := n1_); (have BK101 := n2_); (have BK103 := n3_); (have HB := n4_); clear n0_ n1_ n2_ n3_ n4_; (have q57 : (1 : Int) ≤ ((x6_2.length : Int) : Int) := of_decide_eq_true Q32); (obtain ⟨i057, hi057, _, hsz57, _⟩ := info_parts info9); (have hroom57 : x6_2.length ≤ co51 := (Kd.V_reads' HO_6.out).2.1); (have hC57 : Kd.F Kd.string _ _ (some ad121) x6_2.length x6_2 := (Kd.V_at (base := w.heap.size) HO_6.out).2.2); (have hcut57 := cut_from (P := Tryd.prog) 42 9 .i64 Tryd.underlying42 hi057 1 hsz57 (some ad121) x6_2.length co51 1 (by omega) q57); (have hr57 := Kd.F_cut (m := (1 : Int).toNat) (c := co51) hC57 (by omega) hroom57); (obtain ⟨A57, hA57⟩ : ∃ A1, A1 = (if co51 = (1 : Int).toNat then (some ad121) else ((some ad121) : Option Addr).map (·.add ((1 : Int).toNat * 1))) := ⟨_, rfl⟩); (obtain ⟨c57, hc57⟩ : ∃ c1, c1 = co51 - (1 : Int).toNat := ⟨_, rfl⟩); (have hy57 : y127.length = x6_2.length - (1 : Int).toNat := (by rw [Ny127.out, List.length_drop] <;> omega)); (rw [show (x6_2).drop (1 : Int).toNat = y127 from Ny127.out.symm] at hr57); (replace hr57 : Kd.F Kd.string _ _ A57 y127.length y127 := (by rw [hA57]; exact hr57)); (rw [← hy57, ← hA57, ← hc57] at hcut57); (have HO131 := Aside0.mk (show Kd.V Kd.string 9 _ w.heap.size _ (.slice A57 y127.length c57) y127 from Kd.V_mk (by rw [hy57, hc57]; exact Nat.sub_le_sub_right hroom57 _) hr57)); (have HC131 := Aside0.mk (show y127.length ≤ c57 from by rw [hy57, hc57]; exact Nat.sub_le_sub_right hroom57 _)); clear hr57 hC57 hroom57 hi057 hsz57 hc57; (have KY57 := Aside0.mk hy57); (have KA57 := Aside0.mk hA57); clear hy57 hA57; (replace q57 := eq_true q57); (try go_wp2); go_roundg k2
                  case measure => have := HJ15.out; have := HK2.out; omega
                  case rel => exact ⟨(y127), (y124), (.slice Ao54 y124.length co54), H', ⟨by have := HJ15.out; have := HK2.out; omega⟩, ⟨by (with_reducible repeat (first | apply Kd.V_alloc | apply Kd.V_drewN | apply Kd.V_drew)); exact HO131.out⟩, ⟨Q123⟩, ⟨Q170⟩, ⟨Q34⟩, ⟨Q171⟩⟩
                 ·rw [if_neg c50] at H
                  exact Q3
                ·rw [if_neg c49] at H
                 exact Q3
             ·rw [if_neg c44] at H
              exact Q3
            ·rw [if_neg c43] at H
             (have c43b0 : decide (0 < (x6_2.length : Int)) = false := decide_eq_false c43); (have c43b1 : decide (0 < x6_2.length) = false := decide_eq_false (by omega)); clear c43; (have H' := Aside0.mk H); clear H; (obtain ⟨Ao58, co58, eo58⟩ := Kd.V_slice HO_6.out); subst eo58; (go_wp2); (go_meet)
             case rel => exact Q180
         ·rw [if_neg c40] at H
          (have c40b0 : ((rdOf ByteArray.empty l0 1).toList == ([99, 104, 111, 105, 99, 101] : List UInt8)) = false := beq_eq_false_iff_ne.mpr c40); (have c40b1 : ((rdOf ByteArray.empty l0 1).toList != ([99, 104, 111, 105, 99, 101] : List UInt8)) = true := bne_iff_ne.mpr c40); (by_cases c59 : (rdOf ByteArray.empty l0 1).toList = ([102, 108, 97, 103] : List UInt8))
          ·rw [if_pos c59] at H
           (have c59b0 : ((rdOf ByteArray.empty l0 1).toList == ([102, 108, 97, 103] : List UInt8)) = true := beq_iff_eq.mpr c59); (have c59b1 : ((rdOf ByteArray.empty l0 1).toList != ([102, 108, 97, 103] : List UInt8)) = false := bne_eq_false_iff_eq.mpr c59); clear c59; (have H' := Aside0.mk H); clear H; (have hnb60 := NB103_101.out); (have hnc60 := NB101_103.out); (have hcz61_0 := cz BK103.out 0); (have hcz61_1 := cz BK103.out 1); (have hcz61_2 := cz BK103.out 2); (have hcz61_3 := cz BK103.out 3); (have hcz61_4 := cz BK103.out 4); (have hcz61_5 := cz BK103.out 5); (have hcz61_6 := cz BK103.out 6); (have hfz61_0 := blk_frozen BK103.out 0); (have hfz61_1 := blk_frozen BK103.out 1); (have hfz61_2 := blk_frozen BK103.out 2); (have hfz61_3 := blk_frozen BK103.out 3); (have hfz61_4 := blk_frozen BK103.out 4); (have hfz61_5 := blk_frozen BK103.out 5); (have hfz61_6 := blk_frozen BK103.out 6); (go_wp2); (go_meet)
           case rel => exact ⟨_, (y105), ((⟨#[]⟩ : ByteArray)), (0), (0), (0), (false), ((⟨#[]⟩ : ByteArray)), (4), (0), (0), (([] : List ByteArray)), (.slice none 0 0), H', ⟨Q173⟩, ⟨by (with_reducible repeat (first | apply Kd.V_alloc | apply Kd.V_drewN | apply Kd.V_drew)); exact Kd.V_mono (Kd.V_far (p := ⟨gb103, 1, none⟩) (Kd.V_mono HO_6.out (fun k_ hk => (⟨hk, hk.2.2⟩ : _ ∧ k_ ≠ gb103))) (fun _ hk => hk.2) (.int .i64 4)) (fun _ hk => ⟨hk.1.1, ⟨Q126, ⟨hk.1.2.1, hk.1.2.2⟩⟩⟩)⟩, ⟨Q127⟩, ⟨Q174⟩, ⟨Q175⟩, ⟨Q171⟩⟩
          ·rw [if_neg c59] at H
           (have c59b0 : ((rdOf ByteArray.empty l0 1).toList == ([102, 108, 97, 103] : List UInt8)) = false := beq_eq_false_iff_ne.mpr c59); (have c59b1 : ((rdOf ByteArray.empty l0 1).toList != ([102, 108, 97, 103] : List UInt8)) = true := bne_iff_ne.mpr c59); (have H' := Aside0.mk H); clear H; (go_wp2); (go_meet)
           case rel => exact ⟨_, (y105), ((⟨#[]⟩ : ByteArray)), (0), (0), (0), (false), ((⟨#[]⟩ : ByteArray)), (0), (0), (0), (([] : List ByteArray)), (.slice none 0 0), H', ⟨Q173⟩, ⟨by (with_reducible repeat (first | apply Kd.V_alloc | apply Kd.V_drewN | apply Kd.V_drew)); exact Kd.V_mono HO_6.out (fun _ hk => ⟨hk.1, ⟨Q126, ⟨hk.2.1, hk.2.2⟩⟩⟩)⟩, ⟨Q127⟩, ⟨Q170⟩, ⟨Q34⟩, ⟨Q171⟩⟩
     case rest =>
      clear HC8; (try clear c1); (try clear p1); (try clear q1); (try clear hx1); (try clear qi1); (try clear c2); (try clear c2b0); (try clear c2b1); (try clear p2); (try clear c3); (try clear q3); (try clear c4); (try clear c5); (try clear c5b0); (try clear c5b1); (try clear q5); (try clear c6); (try clear c6b0); (try clear c6b1); (try clear c7); (try clear c7b0); (try clear c7b1); (try clear p10); (try clear q10); (try clear hx10); (try clear qi10); (try clear c11); (try clear p11); (try clear q11); (try clear hx11); (try clear qi11); (try clear p12); (try clear q12); (try clear hx12); (try clear qi12); (try clear c15); (try clear q15); (try clear c17); (try clear c17b0); (try clear c17b1); (try clear c18); (try clear c20); (try clear c22); (try clear c22b0); (try clear c22b1); (try clear c23); (try clear c25); (try clear c25b0); (try clear c25b1); (try clear c26); (try clear c28); (try clear c28b0); (try clear c28b1); (try clear c30); (try clear c30b0); (try clear c30b1); (try clear c32); (try clear c32b0); (try clear c32b1); (try clear c34); (try clear c39); (try clear q39); (try clear c40); (try clear c40b0); (try clear c40b1); (try clear c41); (try clear c43); (try clear c43b0); (try clear c43b1); (try clear c44); (try clear c44b0); (try clear c44b1); (try clear c45); (try clear c45b0); (try clear c45b1); (try clear c47); (try clear c47b0); (try clear c47b1); (try clear c49); (try clear c50); (try clear c50b0); (try clear c50b1); (try clear c55); (try clear c57); (try clear q57); (try clear c59); (try clear c59b0); (try clear c59b1); (try clear c60); (try clear hcz12_0); (try clear hcz12_1); (try clear hcz12_2); (try clear hcz12_3); (try clear hcz12_4); (try clear hcz12_5); (try clear hcz12_6); (try clear hcz21_0); (try clear hcz21_1); (try clear hcz21_2); (try clear hcz21_3); (try clear hcz21_4); (try clear hcz21_5); (try clear hcz21_6); (try clear hcz24_0); (try clear hcz24_1); (try clear hcz24_2); (try clear hcz24_3); (try clear hcz24_4); (try clear hcz24_5); (try clear hcz24_6); (try clear hcz27_0); (try clear hcz27_1); (try clear hcz27_2); (try clear hcz27_3); (try clear hcz27_4); (try clear hcz27_5); (try clear hcz27_6); (try clear hcz35_0); (try clear hcz35_1); (try clear hcz35_2); (try clear hcz35_3); (try clear hcz35_4); (try clear hcz35_5); (try clear hcz35_6); (try clear hcz37_0); (try clear hcz37_1); (try clear hcz37_2); (try clear hcz37_3); (try clear hcz37_4); (try clear hcz37_5); (try clear hcz37_6); (try clear hcz42_0); (try clear hcz42_1); (try clear hcz42_2); (try clear hcz42_3); (try clear hcz42_4); (try clear hcz42_5); (try clear hcz42_6); (try clear hcz4_0); (try clear hcz4_1); (try clear hcz4_2); (try clear hcz4_3); (try clear hcz4_4); (try clear hcz4_5); (try clear hcz4_6); (try clear hcz61_0); (try clear hcz61_1); (try clear hcz61_2); (try clear hcz61_3); (try clear hcz61_4); (try clear hcz61_5); (try clear hcz61_6); (try clear hfz12_0); (try clear hfz12_1); (try clear hfz12_2); (try clear hfz12_3); (try clear hfz12_4); (try clear hfz12_5); (try clear hfz12_6); (try clear hfz21_0); (try clear hfz21_1); (try clear hfz21_2); (try clear hfz21_3); (try clear hfz21_4); (try clear hfz21_5); (try clear hfz21_6); (try clear hfz24_0); (try clear hfz24_1); (try clear hfz24_2); (try clear hfz24_3); (try clear hfz24_4); (try clear hfz24_5); (try clear hfz24_6); (try clear hfz27_0); (try clear hfz27_1); (try clear hfz27_2); (try clear hfz27_3); (try clear hfz27_4); (try clear hfz27_5); (try clear hfz27_6); (try clear hfz35_0); (try clear hfz35_1); (try clear hfz35_2); (try clear hfz35_3); (try clear hfz35_4); (try clear hfz35_5); (try clear hfz35_6); (try clear hfz37_0); (try clear hfz37_1); (try clear hfz37_2); (try clear hfz37_3); (try clear hfz37_4); (try clear hfz37_5); (try clear hfz37_6); (try clear hfz42_0); (try clear hfz42_1); (try clear hfz42_2); (try clear hfz42_3); (try clear hfz42_4); (try clear hfz42_5); (try clear hfz42_6); (try clear hfz4_0); (try clear hfz4_1); (try clear hfz4_2); (try clear hfz4_3); (try clear hfz4_4); (try clear hfz4_5); (try clear hfz4_6); (try clear hfz61_0); (try clear hfz61_1); (try clear hfz61_2); (try clear hfz61_3); (try clear hfz61_4); (try clear hfz61_5); (try clear hfz61_6); (try clear hx102_0); (try clear hx104_0); (try clear hx110_0); (try clear hx113_0); (try clear hx121_0); (try clear hx122_0); (try clear hx123_0); (try clear p1); (try clear p10); (try clear p102); (try clear p104); (try clear p11); (try clear p110); (try clear p113); (try clear p121); (try clear p122); (try clear p123); (try clear p2); (try clear q1); (try clear q10); (try clear q102); (try clear q104); (try clear q11); (try clear q110); (try clear q113); (try clear q121); (try clear q122); (try clear q123); (try clear q15); (try clear q3); (try clear q39); (try clear q57); (obtain ⟨kq, x6_7, x102000_7, x102001_7, x102002_7, x102003_7, x102005_7, x102006_7, x104001_7, x104002_7, x104003_7, x104004_7, u104004, HA, HJ7, HO_6, HO_104004, BK101, BK103, HB⟩ := hcut)
      cases kq with
      | zero => exact absurd HA.out (by simp [impl_fieldOfWords.j3])
      | succ kj7 =>
       (have H := HA.out); clear HA; (simp only [impl_fieldOfWords.j3] at H); (have HC62 := Aside0.mk H); clear H; (go_upto_region 23 with (fail)); (go_cut [89] (fun v89 wc => ∃ (kq : Nat) (x89_61 : Bool), v89 = .bool x89_61 ∧ Aside0 (impl_fieldOfWords.j4 kq x6_7 x89_61 (rdOf ByteArray.empty l0 0) x104001_7 x104002_7 x104003_7 x104004_7 false (⟨#[]⟩ : ByteArray) = some (r1, r2, r3, r4, r5, r6, r7, r8)) ∧ Aside0 (kq ≤ kj7) ∧ Aside0 (Kd.V Kd.string 9 wc w.heap.size (fun k_ => (P0_ k_ ∨ w.heap.size ≤ k_) ∧ some k_ ≠ (u104004 : Value).ownBlock ∧ k_ ≠ gb101 ∧ k_ ≠ gb103) u6 x6_7) ∧ Aside0 (Kd.R Kd.string 9 wc w.heap.size (fun k_ => (w.heap.size ≤ k_)) u104004 x104004_7) ∧ Aside0 (wc.heap[gb101]? = some (.cells #[.string x102000_7, .int .i64 x102001_7, .int .i64 x102002_7, .int .i64 x102003_7, (.slice none 0 0), .bool x102005_7, .string x102006_7] 54 (0, 0))) ∧ Aside0 (wc.heap[gb103]? = some (.cells #[.string (rdOf ByteArray.empty l0 0), .int .i64 x104001_7, .int .i64 x104002_7, .int .i64 x104003_7, u104004, .bool false, .string (⟨#[]⟩ : ByteArray)] 54 (0, 0))) ∧ Aside0 (Below w.heap.size w wc)))
       case first =>
        (have H := HC62.out); clear HC62; (by_cases c63 : (x6_7.length : Int) > 0)
        ·rw [if_pos c63] at H
         (have c63b0 : decide (0 < (x6_7.length : Int)) = true := decide_eq_true c63); (have c63b1 : decide (0 < x6_7.length) = true := decide_eq_true (by omega)); clear c63; ((first | rw [c63b0] | (simp only [i64_w, i32_w]; rw [c63b0]) | skip)); (by_cases c64 : 0 < (x6_7.length : Int))
         ·rw [if_pos c64] at H
          (have c64b0 : decide (0 < (x6_7.length : Int)) = true := decide_eq_true c64); (have c64b1 : decide (0 < x6_7.length) = true := decide_eq_true (by omega)); clear c64; (have H' := Aside0.mk H); clear H; (obtain ⟨Ao65, co65, eo65⟩ := Kd.V_slice HO_6.out); subst eo65; (have p132 : 0 ≤ (0 : Int) := (by omega)); (have q132 : 0 < (x6_7.length : Int) := of_decide_eq_true Q32); (obtain ⟨ad132, e132, hx132_0⟩ := Kd.at_string (Kd.V_reads' HO_6.out).2.2 0 p132 q132); (cases e132); (have qi132 : (0 < x6_7.length) = True := eq_true (by omega)); ((try rw [show ((0 : Int)).toNat = 0 from rfl] at hx132_0)); ((try rw [Addr.add_zero'] at hx132_0)); (replace p132 := eq_true p132); (replace q132 := eq_true q132); (go_wp2); (go_meet)
          case rel => exact ⟨_, (((rdOf ByteArray.empty x6_7 0).toList == ([110, 101, 101, 100, 101, 100] : List UInt8))), Q5, H', ⟨by have := HJ7.out; first | omega | exact Q85⟩, ⟨Q177⟩, ⟨Q182⟩, ⟨Q170⟩, ⟨Q34⟩, ⟨Q171⟩⟩
         ·rw [if_neg c64] at H
          exact Q3
        ·rw [if_neg c63] at H
         (have c63b0 : decide (0 < (x6_7.length : Int)) = false := decide_eq_false c63); (have c63b1 : decide (0 < x6_7.length) = false := decide_eq_false (by omega)); clear c63; ((first | rw [c63b0] | (simp only [i64_w, i32_w]; rw [c63b0]) | skip)); (have H' := Aside0.mk H); clear H; (obtain ⟨Ao66, co66, eo66⟩ := Kd.V_slice HO_6.out); subst eo66; (go_wp2); (go_meet)
         case rel => exact ⟨_, (false), Q5, H', ⟨by have := HJ7.out; first | omega | exact Q85⟩, ⟨Q177⟩, ⟨Q182⟩, ⟨Q170⟩, ⟨Q34⟩, ⟨Q171⟩⟩
       case rest =>
        clear HC62; (try clear c1); (try clear p1); (try clear q1); (try clear hx1); (try clear qi1); (try clear c2); (try clear c2b0); (try clear c2b1); (try clear p2); (try clear c3); (try clear q3); (try clear c4); (try clear c5); (try clear c5b0); (try clear c5b1); (try clear q5); (try clear c6); (try clear c6b0); (try clear c6b1); (try clear c7); (try clear c7b0); (try clear c7b1); (try clear p10); (try clear q10); (try clear hx10); (try clear qi10); (try clear c11); (try clear p11); (try clear q11); (try clear hx11); (try clear qi11); (try clear p12); (try clear q12); (try clear hx12); (try clear qi12); (try clear p13); (try clear q13); (try clear hx13); (try clear qi13); (try clear c15); (try clear q15); (try clear c17); (try clear c17b0); (try clear c17b1); (try clear c18); (try clear c20); (try clear c22); (try clear c22b0); (try clear c22b1); (try clear c23); (try clear c25); (try clear c25b0); (try clear c25b1); (try clear c26); (try clear c28); (try clear c28b0); (try clear c28b1); (try clear c30); (try clear c30b0); (try clear c30b1); (try clear c32); (try clear c32b0); (try clear c32b1); (try clear c34); (try clear c39); (try clear q39); (try clear c40); (try clear c40b0); (try clear c40b1); (try clear c41); (try clear c43); (try clear c43b0); (try clear c43b1); (try clear c44); (try clear c44b0); (try clear c44b1); (try clear c45); (try clear c45b0); (try clear c45b1); (try clear c47); (try clear c47b0); (try clear c47b1); (try clear c49); (try clear c50); (try clear c50b0); (try clear c50b1); (try clear c55); (try clear c57); (try clear q57); (try clear c59); (try clear c59b0); (try clear c59b1); (try clear c60); (try clear c63); (try clear c63b0); (try clear c63b1); (try clear c64); (try clear c64b0); (try clear c64b1); (try clear hcz12_0); (try clear hcz12_1); (try clear hcz12_2); (try clear hcz12_3); (try clear hcz12_4); (try clear hcz12_5); (try clear hcz12_6); (try clear hcz21_0); (try clear hcz21_1); (try clear hcz21_2); (try clear hcz21_3); (try clear hcz21_4); (try clear hcz21_5); (try clear hcz21_6); (try clear hcz24_0); (try clear hcz24_1); (try clear hcz24_2); (try clear hcz24_3); (try clear hcz24_4); (try clear hcz24_5); (try clear hcz24_6); (try clear hcz27_0); (try clear hcz27_1); (try clear hcz27_2); (try clear hcz27_3); (try clear hcz27_4); (try clear hcz27_5); (try clear hcz27_6); (try clear hcz35_0); (try clear hcz35_1); (try clear hcz35_2); (try clear hcz35_3); (try clear hcz35_4); (try clear hcz35_5); (try clear hcz35_6); (try clear hcz37_0); (try clear hcz37_1); (try clear hcz37_2); (try clear hcz37_3); (try clear hcz37_4); (try clear hcz37_5); (try clear hcz37_6); (try clear hcz42_0); (try clear hcz42_1); (try clear hcz42_2); (try clear hcz42_3); (try clear hcz42_4); (try clear hcz42_5); (try clear hcz42_6); (try clear hcz4_0); (try clear hcz4_1); (try clear hcz4_2); (try clear hcz4_3); (try clear hcz4_4); (try clear hcz4_5); (try clear hcz4_6); (try clear hcz61_0); (try clear hcz61_1); (try clear hcz61_2); (try clear hcz61_3); (try clear hcz61_4); (try clear hcz61_5); (try clear hcz61_6); (try clear hfz12_0); (try clear hfz12_1); (try clear hfz12_2); (try clear hfz12_3); (try clear hfz12_4); (try clear hfz12_5); (try clear hfz12_6); (try clear hfz21_0); (try clear hfz21_1); (try clear hfz21_2); (try clear hfz21_3); (try clear hfz21_4); (try clear hfz21_5); (try clear hfz21_6); (try clear hfz24_0); (try clear hfz24_1); (try clear hfz24_2); (try clear hfz24_3); (try clear hfz24_4); (try clear hfz24_5); (try clear hfz24_6); (try clear hfz27_0); (try clear hfz27_1); (try clear hfz27_2); (try clear hfz27_3); (try clear hfz27_4); (try clear hfz27_5); (try clear hfz27_6); (try clear hfz35_0); (try clear hfz35_1); (try clear hfz35_2); (try clear hfz35_3); (try clear hfz35_4); (try clear hfz35_5); (try clear hfz35_6); (try clear hfz37_0); (try clear hfz37_1); (try clear hfz37_2); (try clear hfz37_3); (try clear hfz37_4); (try clear hfz37_5); (try clear hfz37_6); (try clear hfz42_0); (try clear hfz42_1); (try clear hfz42_2); (try clear hfz42_3); (try clear hfz42_4); (try clear hfz42_5); (try clear hfz42_6); (try clear hfz4_0); (try clear hfz4_1); (try clear hfz4_2); (try clear hfz4_3); (try clear hfz4_4); (try clear hfz4_5); (try clear hfz4_6); (try clear hfz61_0); (try clear hfz61_1); (try clear hfz61_2); (try clear hfz61_3); (try clear hfz61_4); (try clear hfz61_5); (try clear hfz61_6); (try clear hx102_0); (try clear hx104_0); (try clear hx110_0); (try clear hx113_0); (try clear hx121_0); (try clear hx122_0); (try clear hx123_0); (try clear hx132_0); (try clear p1); (try clear p10); (try clear p102); (try clear p104); (try clear p11); (try clear p110); (try clear p113); (try clear p12); (try clear p121); (try clear p122); (try clear p123); (try clear p132); (try clear p2); (try clear q1); (try clear q10); (try clear q102); (try clear q104); (try clear q11); (try clear q110); (try clear q113); (try clear q12); (try clear q121); (try clear q122); (try clear q123); (try clear q132); (try clear q15); (try clear q3); (try clear q39); (try clear q5); (try clear q57); (obtain ⟨kq, x89_61, rfl, HA, HJ61, HO_6, HO_104004, BK101, BK103, HB⟩ := hcut)
        cases kq with
        | zero => exact absurd HA.out (by simp [impl_fieldOfWords.j4])
        | succ kj61 =>
         (have H := HA.out); clear HA; (simp only [impl_fieldOfWords.j4] at H); (by_cases c67 : x89_61 = true)
         ·subst c67
          (rw [if_pos rfl] at H); (by_cases c68 : 1 ≤ (x6_7.length : Int))
          ·rw [if_pos c68] at H
           (have c68b0 := eq_true c68); (have c68b1 : decide (1 ≤ (x6_7.length : Int)) = true := decide_eq_true c68); clear c68; (obtain ⟨y133, hy133⟩ : ∃ y_ : List ByteArray, y_ = (x6_7.drop 1) := ⟨_, rfl⟩); (replace H : (if (y133.length : Int) = 2 then (if 1 < (y133.length : Int) then (some ((rdOf ByteArray.empty l0 0), x104001_7, x104002_7, x104003_7, x104004_7, true, rdOf ByteArray.empty y133 1, true)) else (none)) else (some ((rdOf ByteArray.empty l0 0), x104001_7, x104002_7, x104003_7, x104004_7, true, (⟨#[]⟩ : ByteArray), true))) = some (r1, r2, r3, r4, r5, r6, r7, r8) := by first | (rw [hy133]; with_reducible exact H) | (have H2_ := (Option.bind_some _ _).symm.trans H; rw [hy133]; with_reducible exact H2_) | (have H2_ := (Option.bind_some _ _).symm.trans H; with_reducible exact H2_) | with_reducible exact H | (rw [hy133]; exact H) | exact H); (have Ny133 := Aside0.mk hy133); clear hy133; (by_cases c69 : (y133.length : Int) = 2)
           ·rw [if_pos c69] at H
            (have c69b0 : ((y133.length : Int) == 2) = true := beq_iff_eq.mpr c69); (have c69b1 : ((y133.length : Int) != 2) = false := bne_eq_false_iff_eq.mpr c69); clear c69; (by_cases c70 : 1 < (y133.length : Int))
            ·rw [if_pos c70] at H
             (have c70b0 : decide (1 < (y133.length : Int)) = true := decide_eq_true c70); (have c70b1 : decide (1 < y133.length) = true := decide_eq_true (by omega)); clear c70; (simp only [Option.some.injEq, Prod.mk.injEq] at H); (obtain ⟨rfl, rfl, rfl, rfl, rfl, rfl, rfl, rfl⟩ := H); (have hnb71 := NB103_101.out); (have hnc71 := NB101_103.out); (have hcz72_0 := cz BK103.out 0); (have hcz72_1 := cz BK103.out 1); (have hcz72_2 := cz BK103.out 2); (have hcz72_3 := cz BK103.out 3); (have hcz72_4 := cz BK103.out 4); (have hcz72_5 := cz BK103.out 5); (have hcz72_6 := cz BK103.out 6); (have hfz72_0 := blk_frozen BK103.out 0); (have hfz72_1 := blk_frozen BK103.out 1); (have hfz72_2 := blk_frozen BK103.out 2); (have hfz72_3 := blk_frozen BK103.out 3); (have hfz72_4 := blk_frozen BK103.out 4); (have hfz72_5 := blk_frozen BK103.out 5); (have hfz72_6 := blk_frozen BK103.out 6)
             go_wp2_with (first | ((with_reducible refine gate_store (t := 4) (p := 90) rfl ?_); refine store_event (t := 4) (p := 90) (v := ?vo_w73) (w1 := (wc.setCell ⟨gb103, 5, none⟩ (.bool true))) ?hg ?ho ?hn ?hr ?_; (case ho => rfl); (case hg => rfl); (case hn => rfl); (case hr => first | (go_simp; done) | (go_simp; rfl)); intro w73 hw; have n0_ : Aside0 (Kd.V Kd.string 9 w73 w.heap.size (fun k_ => (P0_ k_ ∨ w.heap.size ≤ k_) ∧ some k_ ≠ (u104004 : Value).ownBlock ∧ k_ ≠ gb101 ∧ k_ ≠ gb103) u6 x6_7) := ⟨Q183⟩; have n1_ : Aside0 (Kd.R Kd.string 9 w73 w.heap.size (fun k_ => (w.heap.size ≤ k_)) u104004 x104004_7) := ⟨Q184⟩; have n2_ : Aside0 (w73.heap[gb101]? = some (.cells #[.string x102000_7, .int .i64 x102001_7, .int .i64 x102002_7, .int .i64 x102003_7, .slice none 0 0, .bool x102005_7, .string x102006_7] 54 (0, 0))) := ⟨Q178⟩; have n3_ : Aside0 (w73.heap[gb103]? = some (.cells #[.string (rdOf ByteArray.empty l0 0), .int .i64 x104001_7, .int .i64 x104002_7, .int .i64 x104003_7, u104004, .bool true, .string (⟨#[]⟩ : ByteArray)] 54 (0, 0))) := ⟨Q185⟩; have n4_ : Aside0 (Below w.heap.size w w73) := ⟨Q179⟩; clear hw HO_6 HO_104004 BK101 BK103 HB; have HO_6 := n0_; have HO_104004 := n1_; have BK101 := n2_; have BK103 := n3_; have HB := n4_; clear n0_ n1_ n2_ n3_ n4_; obtain ⟨Ao75, co75, eo75⟩ := Kd.V_slice HO_6.out; subst eo75; have q74 : (1 : Int) ≤ ((x6_7.length : Int) : Int) := of_decide_eq_true Q32; obtain ⟨i074, hi074, _, hsz74, _⟩ := info_parts info9; have hroom74 : x6_7.length ≤ co75 := (Kd.V_reads' HO_6.out).2.1; have hC74 : Kd.F Kd.string _ _ Ao75 x6_7.length x6_7 := (Kd.V_at (base := w.heap.size) HO_6.out).2.2; have hcut74 := cut_from (P := Tryd.prog) 42 9 .i64 Tryd.underlying42 hi074 1 hsz74 Ao75 x6_7.length co75 1 (by omega) q74; have hr74 := Kd.F_cut (m := (1 : Int).toNat) (c := co75) hC74 (by omega) hroom74; obtain ⟨A74, hA74⟩ : ∃ A1, A1 = (if co75 = (1 : Int).toNat then Ao75 else (Ao75 : Option Addr).map (·.add ((1 : Int).toNat * 1))) := ⟨_, rfl⟩; obtain ⟨c74, hc74⟩ : ∃ c1, c1 = co75 - (1 : Int).toNat := ⟨_, rfl⟩; have hy74 : y133.length = x6_7.length - (1 : Int).toNat := (by rw [Ny133.out, List.length_drop] <;> omega); rw [show (x6_7).drop (1 : Int).toNat = y133 from Ny133.out.symm] at hr74; replace hr74 : Kd.F Kd.string _ _ A74 y133.length y133 := (by rw [hA74]; exact hr74); rw [← hy74, ← hA74, ← hc74] at hcut74; have HO137 := Aside0.mk (show Kd.V Kd.string 9 _ w.heap.size _ (.slice A74 y133.length c74) y133 from Kd.V_mk (by rw [hy74, hc74]; exact Nat.sub_le_sub_right hroom74 _) hr74); have HC137 := Aside0.mk (show y133.length ≤ c74 from by rw [hy74, hc74]; exact Nat.sub_le_sub_right hroom74 _); clear hr74 hC74 hroom74 hi074 hsz74 hc74; have KY74 := Aside0.mk hy74; have KA74 := Aside0.mk hA74; clear hy74 hA74; replace q74 := eq_true q74; have p138 : 0 ≤ (1 : Int) := (by omega); have q138 : 1 < (y133.length : Int) := of_decide_eq_true Q32; obtain ⟨ad138, e138, hx138_0⟩ := Kd.at_string (Kd.V_reads' HO137.out).2.2 1 p138 q138; cases e138; (try simp only [show (1 : Int).toNat = 1 from rfl, Nat.reduceMul, Nat.reduceEqDiff, Go.Addr.add, ↓reduceIte] at hx138_0); have qi138 : (1 < y133.length) = True := eq_true (by omega); (try rw [show ((1 : Int)).toNat = 1 from rfl] at hx138_0); replace p138 := eq_true p138; replace q138 := eq_true q138; have hcz76_0 := cz BK103.out 0; have hcz76_1 := cz BK103.out 1; have hcz76_2 := cz BK103.out 2; have hcz76_3 := cz BK103.out 3; have hcz76_4 := cz BK103.out 4; have hcz76_5 := cz BK103.out 5; have hcz76_6 := cz BK103.out 6; have hfz76_0 := blk_frozen BK103.out 0; have hfz76_1 := blk_frozen BK103.out 1; have hfz76_2 := blk_frozen BK103.out 2; have hfz76_3 := blk_frozen BK103.out 3; have hfz76_4 := blk_frozen BK103.out 4; have hfz76_5 := blk_frozen BK103.out 5; have hfz76_6 := blk_frozen BK103.out 6; have hcz77_0 := cz BK101.out 0; have hcz77_1 := cz BK101.out 1; have hcz77_2 := cz BK101.out 2; have hcz77_3 := cz BK101.out 3; have hcz77_4 := cz BK101.out 4; have hcz77_5 := cz BK101.out 5; have hcz77_6 := cz BK101.out 6; have hfz77_0 := blk_frozen BK101.out 0; have hfz77_1 := blk_frozen BK101.out 1; have hfz77_2 := blk_frozen BK101.out 2; have hfz77_3 := blk_frozen BK101.out 3; have hfz77_4 := blk_frozen BK101.out 4; have hfz77_5 := blk_frozen BK101.out 5; have hfz77_6 := blk_frozen BK101.out 6; obtain ⟨Ao78, co78, eo78⟩ := Kd.R_slice HO_104004.out; subst eo78))
             (refine bodyPost_ret (results_ct rfl _ _ gb101 54 #[.string (rdOf ByteArray.empty l0 0), .int .i64 x104001_7, .int .i64 x104002_7, .int .i64 x104003_7, .slice Ao78 x104004_7.length co78, .bool true, .string (rdOf ByteArray.empty y133 1)] (0, 0) _ rfl (by (with_reducible repeat (first | refine kN ?_ _ | refine kD ?_ | refine kA ?_ _)); refine blk_put (cs := #[.string (rdOf ByteArray.empty l0 0), .int .i64 x104001_7, .int .i64 x104002_7, .int .i64 x104003_7, .slice Ao78 x104004_7.length co78, .bool true, .string x102006_7]) ?_ 6 _ rfl; (with_reducible repeat (first | refine kN ?_ _ | refine kD ?_ | refine kA ?_ _)); refine blk_put (cs := #[.string (rdOf ByteArray.empty l0 0), .int .i64 x104001_7, .int .i64 x104002_7, .int .i64 x104003_7, .slice Ao78 x104004_7.length co78, .bool x102005_7, .string x102006_7]) ?_ 5 _ rfl; (with_reducible repeat (first | refine kN ?_ _ | refine kD ?_ | refine kA ?_ _)); refine blk_put (cs := #[.string (rdOf ByteArray.empty l0 0), .int .i64 x104001_7, .int .i64 x104002_7, .int .i64 x104003_7, .slice none 0 0, .bool x102005_7, .string x102006_7]) ?_ 4 _ rfl; (with_reducible repeat (first | refine kN ?_ _ | refine kD ?_ | refine kA ?_ _)); refine blk_put (cs := #[.string (rdOf ByteArray.empty l0 0), .int .i64 x104001_7, .int .i64 x104002_7, .int .i64 x102003_7, .slice none 0 0, .bool x102005_7, .string x102006_7]) ?_ 3 _ rfl; (with_reducible repeat (first | refine kN ?_ _ | refine kD ?_ | refine kA ?_ _)); refine blk_put (cs := #[.string (rdOf ByteArray.empty l0 0), .int .i64 x104001_7, .int .i64 x102002_7, .int .i64 x102003_7, .slice none 0 0, .bool x102005_7, .string x102006_7]) ?_ 2 _ rfl; (with_reducible repeat (first | refine kN ?_ _ | refine kD ?_ | refine kA ?_ _)); refine blk_put (cs := #[.string (rdOf ByteArray.empty l0 0), .int .i64 x102001_7, .int .i64 x102002_7, .int .i64 x102003_7, .slice none 0 0, .bool x102005_7, .string x102006_7]) ?_ 1 _ rfl; (with_reducible repeat (first | refine kN ?_ _ | refine kD ?_ | refine kA ?_ _)); refine blk_put (cs := #[.string x102000_7, .int .i64 x102001_7, .int .i64 x102002_7, .int .i64 x102003_7, .slice none 0 0, .bool x102005_7, .string x102006_7]) ?_ 0 _ rfl; (with_reducible repeat (first | refine kN ?_ _ | refine kD ?_ | refine kA ?_ _)); refine blk_far ?_ NB101_103.out _; (with_reducible repeat (first | refine kN ?_ _ | refine kD ?_ | refine kA ?_ _)); exact BK101.out) Tryd.underlying54 rfl (by kernel_rfl)) rfl ?_); (exact ⟨_, Q97, by (with_reducible repeat (first | apply rA | apply rN | apply rD)); exact Kd.R_mono (Kd.R_far (p := ⟨gb101, 6, none⟩) (Kd.R_far (p := ⟨gb101, 5, none⟩) (Kd.R_far (p := ⟨gb101, 4, none⟩) (Kd.R_far (p := ⟨gb101, 3, none⟩) (Kd.R_far (p := ⟨gb101, 2, none⟩) (Kd.R_far (p := ⟨gb101, 1, none⟩) (Kd.R_far (p := ⟨gb101, 0, none⟩) (Kd.R_far (p := ⟨gb103, 6, none⟩) (Kd.R_types (Kd.R_types HO_104004.out BK103.out (by decide)) BK101.out (by decide)) (fun _ hk => hk.1.2) (.string (rdOf ByteArray.empty y133 1))) (fun _ hk => hk.2) (.string (rdOf ByteArray.empty l0 0))) (fun _ hk => hk.2) (.int .i64 x104001_7)) (fun _ hk => hk.2) (.int .i64 x104002_7)) (fun _ hk => hk.2) (.int .i64 x104003_7)) (fun _ hk => hk.2) (.slice Ao78 x104004_7.length co78)) (fun _ hk => hk.2) (.bool true)) (fun _ hk => hk.2) (.string (rdOf ByteArray.empty y133 1))) (fun _ hk => hk.1.1), Q171⟩)
            ·rw [if_neg c70] at H
             exact Q3
           ·rw [if_neg c69] at H
            (have c69b0 : ((y133.length : Int) == 2) = false := beq_eq_false_iff_ne.mpr c69); (have c69b1 : ((y133.length : Int) != 2) = true := bne_iff_ne.mpr c69); (simp only [Option.some.injEq, Prod.mk.injEq] at H); (obtain ⟨rfl, rfl, rfl, rfl, rfl, rfl, rfl, rfl⟩ := H); (have hnb79 := NB103_101.out); (have hnc79 := NB101_103.out); (have hcz80_0 := cz BK103.out 0); (have hcz80_1 := cz BK103.out 1); (have hcz80_2 := cz BK103.out 2); (have hcz80_3 := cz BK103.out 3); (have hcz80_4 := cz BK103.out 4); (have hcz80_5 := cz BK103.out 5); (have hcz80_6 := cz BK103.out 6); (have hfz80_0 := blk_frozen BK103.out 0); (have hfz80_1 := blk_frozen BK103.out 1); (have hfz80_2 := blk_frozen BK103.out 2); (have hfz80_3 := blk_frozen BK103.out 3); (have hfz80_4 := blk_frozen BK103.out 4); (have hfz80_5 := blk_frozen BK103.out 5); (have hfz80_6 := blk_frozen BK103.out 6)
            go_wp2_with (first | ((with_reducible refine gate_store (t := 4) (p := 90) rfl ?_); refine store_event (t := 4) (p := 90) (v := ?vo_w81) (w1 := (wc.setCell ⟨gb103, 5, none⟩ (.bool true))) ?hg ?ho ?hn ?hr ?_; (case ho => rfl); (case hg => rfl); (case hn => rfl); (case hr => first | (go_simp; done) | (go_simp; rfl)); intro w81 hw; have n0_ : Aside0 (Kd.V Kd.string 9 w81 w.heap.size (fun k_ => (P0_ k_ ∨ w.heap.size ≤ k_) ∧ some k_ ≠ (u104004 : Value).ownBlock ∧ k_ ≠ gb101 ∧ k_ ≠ gb103) u6 x6_7) := ⟨Q183⟩; have n1_ : Aside0 (Kd.R Kd.string 9 w81 w.heap.size (fun k_ => (w.heap.size ≤ k_)) u104004 x104004_7) := ⟨Q184⟩; have n2_ : Aside0 (w81.heap[gb101]? = some (.cells #[.string x102000_7, .int .i64 x102001_7, .int .i64 x102002_7, .int .i64 x102003_7, .slice none 0 0, .bool x102005_7, .string x102006_7] 54 (0, 0))) := ⟨Q178⟩; have n3_ : Aside0 (w81.heap[gb103]? = some (.cells #[.string (rdOf ByteArray.empty l0 0), .int .i64 x104001_7, .int .i64 x104002_7, .int .i64 x104003_7, u104004, .bool true, .string (⟨#[]⟩ : ByteArray)] 54 (0, 0))) := ⟨Q185⟩; have n4_ : Aside0 (Below w.heap.size w w81) := ⟨Q179⟩; clear hw HO_6 HO_104004 BK101 BK103 HB; have HO_6 := n0_; have HO_104004 := n1_; have BK101 := n2_; have BK103 := n3_; have HB := n4_; clear n0_ n1_ n2_ n3_ n4_; obtain ⟨Ao83, co83, eo83⟩ := Kd.V_slice HO_6.out; subst eo83; have q82 : (1 : Int) ≤ ((x6_7.length : Int) : Int) := of_decide_eq_true Q32; obtain ⟨i082, hi082, _, hsz82, _⟩ := info_parts info9; have hroom82 : x6_7.length ≤ co83 := (Kd.V_reads' HO_6.out).2.1; have hC82 : Kd.F Kd.string _ _ Ao83 x6_7.length x6_7 := (Kd.V_at (base := w.heap.size) HO_6.out).2.2; have hcut82 := cut_from (P := Tryd.prog) 42 9 .i64 Tryd.underlying42 hi082 1 hsz82 Ao83 x6_7.length co83 1 (by omega) q82; have hr82 := Kd.F_cut (m := (1 : Int).toNat) (c := co83) hC82 (by omega) hroom82; obtain ⟨A82, hA82⟩ : ∃ A1, A1 = (if co83 = (1 : Int).toNat then Ao83 else (Ao83 : Option Addr).map (·.add ((1 : Int).toNat * 1))) := ⟨_, rfl⟩; obtain ⟨c82, hc82⟩ : ∃ c1, c1 = co83 - (1 : Int).toNat := ⟨_, rfl⟩; have hy82 : y133.length = x6_7.length - (1 : Int).toNat := (by rw [Ny133.out, List.length_drop] <;> omega); rw [show (x6_7).drop (1 : Int).toNat = y133 from Ny133.out.symm] at hr82; replace hr82 : Kd.F Kd.string _ _ A82 y133.length y133 := (by rw [hA82]; exact hr82); rw [← hy82, ← hA82, ← hc82] at hcut82; have HO137 := Aside0.mk (show Kd.V Kd.string 9 _ w.heap.size _ (.slice A82 y133.length c82) y133 from Kd.V_mk (by rw [hy82, hc82]; exact Nat.sub_le_sub_right hroom82 _) hr82); have HC137 := Aside0.mk (show y133.length ≤ c82 from by rw [hy82, hc82]; exact Nat.sub_le_sub_right hroom82 _); clear hr82 hC82 hroom82 hi082 hsz82 hc82; have KY82 := Aside0.mk hy82; have KA82 := Aside0.mk hA82; clear hy82 hA82; replace q82 := eq_true q82; have hcz84_0 := cz BK103.out 0; have hcz84_1 := cz BK103.out 1; have hcz84_2 := cz BK103.out 2; have hcz84_3 := cz BK103.out 3; have hcz84_4 := cz BK103.out 4; have hcz84_5 := cz BK103.out 5; have hcz84_6 := cz BK103.out 6; have hfz84_0 := blk_frozen BK103.out 0; have hfz84_1 := blk_frozen BK103.out 1; have hfz84_2 := blk_frozen BK103.out 2; have hfz84_3 := blk_frozen BK103.out 3; have hfz84_4 := blk_frozen BK103.out 4; have hfz84_5 := blk_frozen BK103.out 5; have hfz84_6 := blk_frozen BK103.out 6; have hcz85_0 := cz BK101.out 0; have hcz85_1 := cz BK101.out 1; have hcz85_2 := cz BK101.out 2; have hcz85_3 := cz BK101.out 3; have hcz85_4 := cz BK101.out 4; have hcz85_5 := cz BK101.out 5; have hcz85_6 := cz BK101.out 6; have hfz85_0 := blk_frozen BK101.out 0; have hfz85_1 := blk_frozen BK101.out 1; have hfz85_2 := blk_frozen BK101.out 2; have hfz85_3 := blk_frozen BK101.out 3; have hfz85_4 := blk_frozen BK101.out 4; have hfz85_5 := blk_frozen BK101.out 5; have hfz85_6 := blk_frozen BK101.out 6; obtain ⟨Ao86, co86, eo86⟩ := Kd.R_slice HO_104004.out; subst eo86))
            (refine bodyPost_ret (results_ct rfl _ _ gb101 54 #[.string (rdOf ByteArray.empty l0 0), .int .i64 x104001_7, .int .i64 x104002_7, .int .i64 x104003_7, .slice Ao86 x104004_7.length co86, .bool true, .string (⟨#[]⟩ : ByteArray)] (0, 0) _ rfl (by (with_reducible repeat (first | refine kN ?_ _ | refine kD ?_ | refine kA ?_ _)); refine blk_put (cs := #[.string (rdOf ByteArray.empty l0 0), .int .i64 x104001_7, .int .i64 x104002_7, .int .i64 x104003_7, .slice Ao86 x104004_7.length co86, .bool true, .string x102006_7]) ?_ 6 _ rfl; (with_reducible repeat (first | refine kN ?_ _ | refine kD ?_ | refine kA ?_ _)); refine blk_put (cs := #[.string (rdOf ByteArray.empty l0 0), .int .i64 x104001_7, .int .i64 x104002_7, .int .i64 x104003_7, .slice Ao86 x104004_7.length co86, .bool x102005_7, .string x102006_7]) ?_ 5 _ rfl; (with_reducible repeat (first | refine kN ?_ _ | refine kD ?_ | refine kA ?_ _)); refine blk_put (cs := #[.string (rdOf ByteArray.empty l0 0), .int .i64 x104001_7, .int .i64 x104002_7, .int .i64 x104003_7, .slice none 0 0, .bool x102005_7, .string x102006_7]) ?_ 4 _ rfl; (with_reducible repeat (first | refine kN ?_ _ | refine kD ?_ | refine kA ?_ _)); refine blk_put (cs := #[.string (rdOf ByteArray.empty l0 0), .int .i64 x104001_7, .int .i64 x104002_7, .int .i64 x102003_7, .slice none 0 0, .bool x102005_7, .string x102006_7]) ?_ 3 _ rfl; (with_reducible repeat (first | refine kN ?_ _ | refine kD ?_ | refine kA ?_ _)); refine blk_put (cs := #[.string (rdOf ByteArray.empty l0 0), .int .i64 x104001_7, .int .i64 x102002_7, .int .i64 x102003_7, .slice none 0 0, .bool x102005_7, .string x102006_7]) ?_ 2 _ rfl; (with_reducible repeat (first | refine kN ?_ _ | refine kD ?_ | refine kA ?_ _)); refine blk_put (cs := #[.string (rdOf ByteArray.empty l0 0), .int .i64 x102001_7, .int .i64 x102002_7, .int .i64 x102003_7, .slice none 0 0, .bool x102005_7, .string x102006_7]) ?_ 1 _ rfl; (with_reducible repeat (first | refine kN ?_ _ | refine kD ?_ | refine kA ?_ _)); refine blk_put (cs := #[.string x102000_7, .int .i64 x102001_7, .int .i64 x102002_7, .int .i64 x102003_7, .slice none 0 0, .bool x102005_7, .string x102006_7]) ?_ 0 _ rfl; (with_reducible repeat (first | refine kN ?_ _ | refine kD ?_ | refine kA ?_ _)); exact BK101.out) Tryd.underlying54 rfl (by kernel_rfl)) rfl ?_); (exact ⟨_, Q97, by (with_reducible repeat (first | apply rA | apply rN | apply rD)); exact Kd.R_mono (Kd.R_far (p := ⟨gb101, 6, none⟩) (Kd.R_far (p := ⟨gb101, 5, none⟩) (Kd.R_far (p := ⟨gb101, 4, none⟩) (Kd.R_far (p := ⟨gb101, 3, none⟩) (Kd.R_far (p := ⟨gb101, 2, none⟩) (Kd.R_far (p := ⟨gb101, 1, none⟩) (Kd.R_far (p := ⟨gb101, 0, none⟩) (Kd.R_types HO_104004.out BK101.out (by decide)) (fun _ hk => hk.2) (.string (rdOf ByteArray.empty l0 0))) (fun _ hk => hk.2) (.int .i64 x104001_7)) (fun _ hk => hk.2) (.int .i64 x104002_7)) (fun _ hk => hk.2) (.int .i64 x104003_7)) (fun _ hk => hk.2) (.slice Ao86 x104004_7.length co86)) (fun _ hk => hk.2) (.bool true)) (fun _ hk => hk.2) (.string (⟨#[]⟩ : ByteArray))) (fun _ hk => hk.1), Q171⟩)
          ·rw [if_neg c68] at H
           exact Q3
         ·replace c67 := Bool.eq_false_iff.mpr c67
          subst c67; (rw [if_neg (show ¬ (false = true) by decide)] at H); (by_cases c87 : (x6_7.length : Int) = 2)
          ·rw [if_pos c87] at H
           (have c87b0 : ((x6_7.length : Int) == 2) = true := beq_iff_eq.mpr c87); (have c87b1 : ((x6_7.length : Int) != 2) = false := bne_eq_false_iff_eq.mpr c87); clear c87; (by_cases c88 : 1 < (x6_7.length : Int))
           ·rw [if_pos c88] at H
            (have c88b0 : decide (1 < (x6_7.length : Int)) = true := decide_eq_true c88); (have c88b1 : decide (1 < x6_7.length) = true := decide_eq_true (by omega)); clear c88; (simp only [Option.some.injEq, Prod.mk.injEq] at H); (obtain ⟨rfl, rfl, rfl, rfl, rfl, rfl, rfl, rfl⟩ := H); (obtain ⟨Ao89, co89, eo89⟩ := Kd.V_slice HO_6.out); subst eo89; (have p139 : 0 ≤ (1 : Int) := (by omega)); (have q139 : 1 < (x6_7.length : Int) := of_decide_eq_true Q32); (obtain ⟨ad139, e139, hx139_0⟩ := Kd.at_string (Kd.V_reads' HO_6.out).2.2 1 p139 q139); (cases e139); ((try simp only [show (1 : Int).toNat = 1 from rfl, Nat.reduceMul, Nat.reduceEqDiff, Go.Addr.add, ↓reduceIte] at hx139_0)); (have qi139 : (1 < x6_7.length) = True := eq_true (by omega)); ((try rw [show ((1 : Int)).toNat = 1 from rfl] at hx139_0)); (replace p139 := eq_true p139); (replace q139 := eq_true q139); (have hnb90 := NB103_101.out); (have hnc90 := NB101_103.out); (have hcz91_0 := cz BK103.out 0); (have hcz91_1 := cz BK103.out 1); (have hcz91_2 := cz BK103.out 2); (have hcz91_3 := cz BK103.out 3); (have hcz91_4 := cz BK103.out 4); (have hcz91_5 := cz BK103.out 5); (have hcz91_6 := cz BK103.out 6); (have hfz91_0 := blk_frozen BK103.out 0); (have hfz91_1 := blk_frozen BK103.out 1); (have hfz91_2 := blk_frozen BK103.out 2); (have hfz91_3 := blk_frozen BK103.out 3); (have hfz91_4 := blk_frozen BK103.out 4); (have hfz91_5 := blk_frozen BK103.out 5); (have hfz91_6 := blk_frozen BK103.out 6); (have hcz92_0 := cz BK101.out 0); (have hcz92_1 := cz BK101.out 1); (have hcz92_2 := cz BK101.out 2); (have hcz92_3 := cz BK101.out 3); (have hcz92_4 := cz BK101.out 4); (have hcz92_5 := cz BK101.out 5); (have hcz92_6 := cz BK101.out 6); (have hfz92_0 := blk_frozen BK101.out 0); (have hfz92_1 := blk_frozen BK101.out 1); (have hfz92_2 := blk_frozen BK101.out 2); (have hfz92_3 := blk_frozen BK101.out 3); (have hfz92_4 := blk_frozen BK101.out 4); (have hfz92_5 := blk_frozen BK101.out 5); (have hfz92_6 := blk_frozen BK101.out 6); (obtain ⟨Ao93, co93, eo93⟩ := Kd.R_slice HO_104004.out); subst eo93; (go_wp2); (refine bodyPost_ret (results_ct rfl _ _ gb101 54 #[.string (rdOf ByteArray.empty l0 0), .int .i64 x104001_7, .int .i64 x104002_7, .int .i64 x104003_7, .slice Ao93 x104004_7.length co93, .bool false, .string (rdOf ByteArray.empty x6_7 1)] (0, 0) _ rfl (by (with_reducible repeat (first | refine kN ?_ _ | refine kD ?_ | refine kA ?_ _)); refine blk_put (cs := #[.string (rdOf ByteArray.empty l0 0), .int .i64 x104001_7, .int .i64 x104002_7, .int .i64 x104003_7, .slice Ao93 x104004_7.length co93, .bool false, .string x102006_7]) ?_ 6 _ rfl; (with_reducible repeat (first | refine kN ?_ _ | refine kD ?_ | refine kA ?_ _)); refine blk_put (cs := #[.string (rdOf ByteArray.empty l0 0), .int .i64 x104001_7, .int .i64 x104002_7, .int .i64 x104003_7, .slice Ao93 x104004_7.length co93, .bool x102005_7, .string x102006_7]) ?_ 5 _ rfl; (with_reducible repeat (first | refine kN ?_ _ | refine kD ?_ | refine kA ?_ _)); refine blk_put (cs := #[.string (rdOf ByteArray.empty l0 0), .int .i64 x104001_7, .int .i64 x104002_7, .int .i64 x104003_7, .slice none 0 0, .bool x102005_7, .string x102006_7]) ?_ 4 _ rfl; (with_reducible repeat (first | refine kN ?_ _ | refine kD ?_ | refine kA ?_ _)); refine blk_put (cs := #[.string (rdOf ByteArray.empty l0 0), .int .i64 x104001_7, .int .i64 x104002_7, .int .i64 x102003_7, .slice none 0 0, .bool x102005_7, .string x102006_7]) ?_ 3 _ rfl; (with_reducible repeat (first | refine kN ?_ _ | refine kD ?_ | refine kA ?_ _)); refine blk_put (cs := #[.string (rdOf ByteArray.empty l0 0), .int .i64 x104001_7, .int .i64 x102002_7, .int .i64 x102003_7, .slice none 0 0, .bool x102005_7, .string x102006_7]) ?_ 2 _ rfl; (with_reducible repeat (first | refine kN ?_ _ | refine kD ?_ | refine kA ?_ _)); refine blk_put (cs := #[.string (rdOf ByteArray.empty l0 0), .int .i64 x102001_7, .int .i64 x102002_7, .int .i64 x102003_7, .slice none 0 0, .bool x102005_7, .string x102006_7]) ?_ 1 _ rfl; (with_reducible repeat (first | refine kN ?_ _ | refine kD ?_ | refine kA ?_ _)); refine blk_put (cs := #[.string x102000_7, .int .i64 x102001_7, .int .i64 x102002_7, .int .i64 x102003_7, .slice none 0 0, .bool x102005_7, .string x102006_7]) ?_ 0 _ rfl; (with_reducible repeat (first | refine kN ?_ _ | refine kD ?_ | refine kA ?_ _)); refine blk_far ?_ NB101_103.out _; (with_reducible repeat (first | refine kN ?_ _ | refine kD ?_ | refine kA ?_ _)); exact BK101.out) Tryd.underlying54 rfl (by kernel_rfl)) rfl ?_); (exact ⟨_, Q97, by (with_reducible repeat (first | apply rA | apply rN | apply rD)); exact Kd.R_mono (Kd.R_far (p := ⟨gb101, 6, none⟩) (Kd.R_far (p := ⟨gb101, 5, none⟩) (Kd.R_far (p := ⟨gb101, 4, none⟩) (Kd.R_far (p := ⟨gb101, 3, none⟩) (Kd.R_far (p := ⟨gb101, 2, none⟩) (Kd.R_far (p := ⟨gb101, 1, none⟩) (Kd.R_far (p := ⟨gb101, 0, none⟩) (Kd.R_far (p := ⟨gb103, 6, none⟩) (Kd.R_types (Kd.R_types HO_104004.out BK103.out (by decide)) BK101.out (by decide)) (fun _ hk => hk.1.2) (.string (rdOf ByteArray.empty x6_7 1))) (fun _ hk => hk.2) (.string (rdOf ByteArray.empty l0 0))) (fun _ hk => hk.2) (.int .i64 x104001_7)) (fun _ hk => hk.2) (.int .i64 x104002_7)) (fun _ hk => hk.2) (.int .i64 x104003_7)) (fun _ hk => hk.2) (.slice Ao93 x104004_7.length co93)) (fun _ hk => hk.2) (.bool false)) (fun _ hk => hk.2) (.string (rdOf ByteArray.empty x6_7 1))) (fun _ hk => hk.1.1), Q171⟩)
           ·rw [if_neg c88] at H
            exact Q3
          ·rw [if_neg c87] at H
           (have c87b0 : ((x6_7.length : Int) == 2) = false := beq_eq_false_iff_ne.mpr c87); (have c87b1 : ((x6_7.length : Int) != 2) = true := bne_iff_ne.mpr c87); (simp only [Option.some.injEq, Prod.mk.injEq] at H); (obtain ⟨rfl, rfl, rfl, rfl, rfl, rfl, rfl, rfl⟩ := H); (obtain ⟨Ao94, co94, eo94⟩ := Kd.V_slice HO_6.out); subst eo94; (have hnb95 := NB103_101.out); (have hnc95 := NB101_103.out); (have hcz96_0 := cz BK103.out 0); (have hcz96_1 := cz BK103.out 1); (have hcz96_2 := cz BK103.out 2); (have hcz96_3 := cz BK103.out 3); (have hcz96_4 := cz BK103.out 4); (have hcz96_5 := cz BK103.out 5); (have hcz96_6 := cz BK103.out 6); (have hfz96_0 := blk_frozen BK103.out 0); (have hfz96_1 := blk_frozen BK103.out 1); (have hfz96_2 := blk_frozen BK103.out 2); (have hfz96_3 := blk_frozen BK103.out 3); (have hfz96_4 := blk_frozen BK103.out 4); (have hfz96_5 := blk_frozen BK103.out 5); (have hfz96_6 := blk_frozen BK103.out 6); (have hcz97_0 := cz BK101.out 0); (have hcz97_1 := cz BK101.out 1); (have hcz97_2 := cz BK101.out 2); (have hcz97_3 := cz BK101.out 3); (have hcz97_4 := cz BK101.out 4); (have hcz97_5 := cz BK101.out 5); (have hcz97_6 := cz BK101.out 6); (have hfz97_0 := blk_frozen BK101.out 0); (have hfz97_1 := blk_frozen BK101.out 1); (have hfz97_2 := blk_frozen BK101.out 2); (have hfz97_3 := blk_frozen BK101.out 3); (have hfz97_4 := blk_frozen BK101.out 4); (have hfz97_5 := blk_frozen BK101.out 5); (have hfz97_6 := blk_frozen BK101.out 6); (obtain ⟨Ao98, co98, eo98⟩ := Kd.R_slice HO_104004.out); subst eo98; (go_wp2); (refine bodyPost_ret (results_ct rfl _ _ gb101 54 #[.string (rdOf ByteArray.empty l0 0), .int .i64 x104001_7, .int .i64 x104002_7, .int .i64 x104003_7, .slice Ao98 x104004_7.length co98, .bool false, .string (⟨#[]⟩ : ByteArray)] (0, 0) _ rfl (by (with_reducible repeat (first | refine kN ?_ _ | refine kD ?_ | refine kA ?_ _)); refine blk_put (cs := #[.string (rdOf ByteArray.empty l0 0), .int .i64 x104001_7, .int .i64 x104002_7, .int .i64 x104003_7, .slice Ao98 x104004_7.length co98, .bool false, .string x102006_7]) ?_ 6 _ rfl; (with_reducible repeat (first | refine kN ?_ _ | refine kD ?_ | refine kA ?_ _)); refine blk_put (cs := #[.string (rdOf ByteArray.empty l0 0), .int .i64 x104001_7, .int .i64 x104002_7, .int .i64 x104003_7, .slice Ao98 x104004_7.length co98, .bool x102005_7, .string x102006_7]) ?_ 5 _ rfl; (with_reducible repeat (first | refine kN ?_ _ | refine kD ?_ | refine kA ?_ _)); refine blk_put (cs := #[.string (rdOf ByteArray.empty l0 0), .int .i64 x104001_7, .int .i64 x104002_7, .int .i64 x104003_7, .slice none 0 0, .bool x102005_7, .string x102006_7]) ?_ 4 _ rfl; (with_reducible repeat (first | refine kN ?_ _ | refine kD ?_ | refine kA ?_ _)); refine blk_put (cs := #[.string (rdOf ByteArray.empty l0 0), .int .i64 x104001_7, .int .i64 x104002_7, .int .i64 x102003_7, .slice none 0 0, .bool x102005_7, .string x102006_7]) ?_ 3 _ rfl; (with_reducible repeat (first | refine kN ?_ _ | refine kD ?_ | refine kA ?_ _)); refine blk_put (cs := #[.string (rdOf ByteArray.empty l0 0), .int .i64 x104001_7, .int .i64 x102002_7, .int .i64 x102003_7, .slice none 0 0, .bool x102005_7, .string x102006_7]) ?_ 2 _ rfl; (with_reducible repeat (first | refine kN ?_ _ | refine kD ?_ | refine kA ?_ _)); refine blk_put (cs := #[.string (rdOf ByteArray.empty l0 0), .int .i64 x102001_7, .int .i64 x102002_7, .int .i64 x102003_7, .slice none 0 0, .bool x102005_7, .string x102006_7]) ?_ 1 _ rfl; (with_reducible repeat (first | refine kN ?_ _ | refine kD ?_ | refine kA ?_ _)); refine blk_put (cs := #[.string x102000_7, .int .i64 x102001_7, .int .i64 x102002_7, .int .i64 x102003_7, .slice none 0 0, .bool x102005_7, .string x102006_7]) ?_ 0 _ rfl; (with_reducible repeat (first | refine kN ?_ _ | refine kD ?_ | refine kA ?_ _)); exact BK101.out) Tryd.underlying54 rfl (by kernel_rfl)) rfl ?_); (exact ⟨_, Q97, by (with_reducible repeat (first | apply rA | apply rN | apply rD)); exact Kd.R_mono (Kd.R_far (p := ⟨gb101, 6, none⟩) (Kd.R_far (p := ⟨gb101, 5, none⟩) (Kd.R_far (p := ⟨gb101, 4, none⟩) (Kd.R_far (p := ⟨gb101, 3, none⟩) (Kd.R_far (p := ⟨gb101, 2, none⟩) (Kd.R_far (p := ⟨gb101, 1, none⟩) (Kd.R_far (p := ⟨gb101, 0, none⟩) (Kd.R_types HO_104004.out BK101.out (by decide)) (fun _ hk => hk.2) (.string (rdOf ByteArray.empty l0 0))) (fun _ hk => hk.2) (.int .i64 x104001_7)) (fun _ hk => hk.2) (.int .i64 x104002_7)) (fun _ hk => hk.2) (.int .i64 x104003_7)) (fun _ hk => hk.2) (.slice Ao98 x104004_7.length co98)) (fun _ hk => hk.2) (.bool false)) (fun _ hk => hk.2) (.string (⟨#[]⟩ : ByteArray))) (fun _ hk => hk.1), Q171⟩)
    ·rw [if_neg c7] at H
     exact Q3
   ·rw [if_neg c6] at H
    exact Q3
  ·rw [if_neg c5] at H
   exact Q3
/-! ### impl_ParseForm: function 8 -/
def impl_ParseForm.l0 : Nat → ByteArray → List (S54) → List ByteArray → Int → Int → Option ((List (S54)) × Bool)
 | 0, _, _, _, _, _ => none
 | k + 1, x0, x4, x22, x23, x24 => if x24 < x23 then (if 0 ≤ x24 then (if x24 < (x22.length : Int) then ((strings_Split.f (rdOf ByteArray.empty x22 x24) (⟨#[32]⟩ : ByteArray)).bind fun t113 => ((impl_fieldOfWords.f k t113).bind fun bt116 => (if bt116.2.2.2.2.2.2.2 = true then (if x4.length < 1599289640401 then (impl_ParseForm.l0 k x0 (x4 ++ [(⟨bt116.1, bt116.2.1, bt116.2.2.1, bt116.2.2.2.1, bt116.2.2.2.2.1, bt116.2.2.2.2.2.1, bt116.2.2.2.2.2.2.1⟩ : S54)]) x22 x23 (wrap64 (x24 + 1))) else (none)) else (some (([] : List (S54)), false))))) else (none)) else (none)) else ((impl_FormatForm.f k x4).bind fun bt110 => (if bt110.2 = true then (if bt110.1.toList = x0.toList then (some (x4, true)) else (some (([] : List (S54)), false))) else (some (([] : List (S54)), false))))
def impl_ParseForm.f (k : Nat) (a0 : ByteArray) : Option ((List (S54)) × Bool) := if (a0.size : Int) > 4000 then (some (([] : List (S54)), false)) else ((strings_Split.f a0 (⟨#[10]⟩ : ByteArray)).bind fun t104 => (if 0 ≤ (wrap64 ((t104.length : Int) - 1)) then (if (wrap64 ((t104.length : Int) - 1)) ≤ (t104.length : Int) then ((some (t104.take ((wrap64 ((t104.length : Int) - 1)) : Int).toNat : List ByteArray)).bind fun y107 => (impl_ParseForm.l0 k a0 (([] : List (S54))) y107 (y107.length : Int) 0)) else (none)) else (none)))
set_option maxHeartbeats 8000000 in
set_option maxRecDepth 100000 in
theorem impl_ParseForm.calls (k : Nat) (a0 : ByteArray) (r1 : List (S54)) (r2 : Bool) (w : World) (hG : GE w) (h : impl_ParseForm.f k a0 = some (r1, r2)) :
  Calls Tryd.prog 8 #[.string a0] w fun e w' => ∃ v0_ : Value, e = .returned (.tuple #[v0_, .bool r2]) ∧ Kd.S k54 54 w' w.heap.size (fun _ => True) v0_ r1 ∧ Below w.heap.size w w' := by
 (have hu54 := Tryd.underlying54); (have HG := Aside0.mk hG); clear hG; (have HB := Aside0.mk (Below.refl w.heap.size w)); (have H : (if (a0.size : Int) > 4000 then (some (([] : List (S54)), false)) else ((strings_Split.f a0 (⟨#[10]⟩ : ByteArray)).bind fun t104 => (if 0 ≤ (wrap64 ((t104.length : Int) - 1)) then (if (wrap64 ((t104.length : Int) - 1)) ≤ (t104.length : Int) then ((some (t104.take ((wrap64 ((t104.length : Int) - 1)) : Int).toNat : List ByteArray)).bind fun y107 => (impl_ParseForm.l0 k a0 (([] : List (S54))) y107 (y107.length : Int) 0)) else (none)) else (none)))) = some (r1, r2) := h); clear h; (by_cases c2 : (a0.size : Int) > 4000); (· (rw [if_pos c2] at H); (have c2b0 : decide (4000 < (a0.size : Int)) = true := decide_eq_true c2); (have c2b1 : decide (4000 < a0.size) = true := decide_eq_true (by omega)); clear c2; (simp only [Option.some.injEq, Prod.mk.injEq] at H); (obtain ⟨rfl, rfl⟩ := H); (go_enter Tryd.func8, Tryd.ntmps8); (go_wp2); (go_ret2); (exact ⟨_, Q97, Q186, Q31⟩))
 ·rw [if_neg c2] at H
  (have c2b0 : decide (4000 < (a0.size : Int)) = false := decide_eq_false c2); (have c2b1 : decide (4000 < a0.size) = false := decide_eq_false (by omega)); clear c2; (obtain ⟨y101, hy101⟩ : ∃ y_ : List (S54), y_ = (([] : List (S54))) := ⟨_, rfl⟩); (replace H : ((strings_Split.f a0 (⟨#[10]⟩ : ByteArray)).bind fun t104 => (if 0 ≤ (wrap64 ((t104.length : Int) - 1)) then (if (wrap64 ((t104.length : Int) - 1)) ≤ (t104.length : Int) then ((some (t104.take ((wrap64 ((t104.length : Int) - 1)) : Int).toNat : List ByteArray)).bind fun y107 => (impl_ParseForm.l0 k a0 y101 y107 (y107.length : Int) 0)) else (none)) else (none))) = some (r1, r2) := Q104); (have Ny101 := Aside0.mk hy101); clear hy101; (replace H := Option.bind_eq_some_iff.mp H); (obtain ⟨t104, A30, H⟩ := H); (have A3 := Aside0.mk A30); clear A30; (obtain ⟨ji4, hji4⟩ : ∃ j_ : Int, (wrap64 ((t104.length : Int) - 1)) = j_ := ⟨_, rfl⟩); (replace H : (if 0 ≤ (ji4) then (if (ji4) ≤ (t104.length : Int) then ((some (t104.take ((ji4) : Int).toNat : List ByteArray)).bind fun y107 => (impl_ParseForm.l0 k a0 y101 y107 (y107.length : Int) 0)) else (none)) else (none)) = some (r1, r2) := by first | (rw [hji4] at H; exact H) | (simp only [hji4] at H ⊢; exact H)); ((try rw [hji4] at A3)); (have hji4w : (IntKind.i64.wrap ((t104.length : Int) - 1)) = ji4 := (i64_w _).trans hji4); (by_cases c5 : 0 ≤ (ji4))
  ·rw [if_pos c5] at H
   (have c5b0 := eq_true c5); (have c5b1 : decide (0 ≤ (ji4)) = true := decide_eq_true c5); clear c5; (by_cases c6 : (ji4) ≤ (t104.length : Int))
   ·rw [if_pos c6] at H
    (have c6b0 := eq_true c6); (have c6b1 : decide ((ji4) ≤ (t104.length : Int)) = true := decide_eq_true c6); clear c6; (obtain ⟨y107, hy107⟩ : ∃ y_ : List ByteArray, y_ = (t104.take ((ji4) : Int).toNat) := ⟨_, rfl⟩); (replace H : (impl_ParseForm.l0 k a0 y101 y107 (y107.length : Int) 0) = some (r1, r2) := Q105); (have Ny107 := Aside0.mk hy107); clear hy107; (have H' := Aside0.mk H); clear H; (go_enter Tryd.func8, Tryd.ntmps8); (go_wp2_with (first | ((with_reducible refine gate_dst (N := 15) rfl ?_); refine Kd.S_lit k54 _ 54 ?hg (N := 15) ?hd (xs := ([] : List (S54))) (inner := []) (ok := fun _ => True) (okp := fun _ => True) ?hr ?hp (fun _ hk => hk) trivial (Below.refl _ _) (Nat.le_refl _) (by simp) ?_; (case hd => rfl); (case hg => rfl); (case hr => first | (go_simp; done) | (go_simp; rfl)); (case hp => exact (Reps.none _ _)); intro v102 w7 ho8 hb hg_ hnew_; clear hg_ hnew_; (first | rw [← Ny101.out] at ho8 | (simp only [Int.reduceToNat] at ho8; rw [← Ny101.out] at ho8)); have hB_ := bz Q31 hb; have n0_ := Aside0.mk (Kd.S_lower ho8 (below_size hB_)); have n1_ := Aside0.mk (below_step hB_ hb); clear HB; have HO103 := n0_; have HB := n1_; clear n0_ n1_ hB_ hb ho8) | ((with_reducible refine gate_callee (f := 29) rfl ?_); refine gL (some 17) Tryd.func29 #[.string a0, .string (⟨#[10]⟩ : ByteArray)] ?_; (with_reducible refine (strings_Split.calls a0 (⟨#[10]⟩ : ByteArray) t104 _ ?side1 A3.out).mono ?_); (case side1 => first | exact Q187 | (repeat (first | exact HG.out | (with_reducible first | apply GE.drewN | apply GE.drew | apply GE.alloc)))); rintro e w9 ⟨v105, rfl, ho0, hb⟩; refine ⟨_, rfl, ?_⟩; have n0_ := Aside0.mk (Kd.S_elder' Q106 (Kd.R_base ho0) hb); have n1_ := Aside0.mk (Kd.R_lower ho0 (below_size Q31)); have n2_ := Aside0.mk (below_step Q31 hb); clear HO103 HB; have HO103 := n0_; have HO106 := n1_; have HB := n2_; clear n0_ n1_ n2_; (try clear hb); (try clear hb2); (try clear hk); (try clear hi); (try clear ho0); obtain ⟨Ao10, co10, eo10⟩ := Kd.R_slice HO106.out; subst eo10; have q11 : ((ji4) : Int) ≤ ((t104.length : Int) : Int) := of_decide_eq_true Q32; obtain ⟨i011, hi011, _, hsz11, _⟩ := info_parts info9; have hcut11 := cut_to (P := Tryd.prog) 42 9 .i64 Tryd.underlying42 hi011 Ao10 t104.length co10 (ji4) (of_decide_eq_true Q32) q11 (Kd.R_reads' HO106.out).2.1; have hr11 := Kd.R_take (m := ((ji4) : Int).toNat) HO106.out (by omega); have hy11 : y107.length = ((ji4) : Int).toNat := (by rw [Ny107.out, List.length_take]; omega); rw [← Ny107.out] at hr11; rw [← hy11] at hr11 hcut11; clear hy11 hi011 hsz11 HO106; have HO109 := Aside0.mk hr11; clear hr11; replace q11 := eq_true q11))); (go_loopg [4, 24] k (fun kq v4 v24 w' => ∃ (x4_1 : List (S54)) (x24_1 : Int), v24 = .int .i64 x24_1 ∧ Aside0 (impl_ParseForm.l0 kq a0 x4_1 y107 (y107.length : Int) x24_1 = some (r1, r2)) ∧ Aside0 (kq ≤ k) ∧ Aside0 (Kd.S k54 54 w' w.heap.size (fun k_ => some k_ ≠ ((.slice Ao10 y107.length co10) : Value).ownBlock) v4 x4_1) ∧ Aside0 (Kd.R Kd.string 9 w' w.heap.size (fun _ => True) (.slice Ao10 y107.length co10) y107) ∧ Aside0 (Below w.heap.size w w')))
    case atStart => exact ⟨(y101), (0), Q5, H', ⟨Nat.le_refl _⟩, ⟨by (with_reducible repeat (first | apply Kd.S_alloc | apply Kd.S_drewN | apply Kd.S_drew)); exact Kd.S_mono HO103.out (fun _ hk => by first | exact hk.2 | (have h_ := hk.2; clear hk; revert h_; cases Ao10 <;> exact id))⟩, ⟨Q108⟩, ⟨Q31⟩⟩
    case round =>
     (clear H'); (try clear q1); (try clear c2); (try clear c2b0); (try clear c2b1); (try clear p2); (try clear c5); (try clear c5b0); (try clear c5b1); (try clear c6); (try clear c6b0); (try clear c6b1); (try clear p6); (try clear c8); (try clear q11); (try clear q11); (obtain ⟨x4_1, x24_1, rfl, HA, HK1, HO_4, HO_22, HB⟩ := hrel)
     cases gk with
     | zero => exact absurd HA.out (by simp [impl_ParseForm.l0])
     | succ k1 =>
      (have H := HA.out); clear HA; (simp only [impl_ParseForm.l0] at H); (by_cases c12 : x24_1 < (y107.length : Int))
      ·rw [if_pos c12] at H
       (have c12b0 : decide (x24_1 < (y107.length : Int)) = true := decide_eq_true c12); clear c12; (by_cases c13 : 0 ≤ x24_1)
       ·rw [if_pos c13] at H
        (have c13b0 : decide (0 ≤ x24_1) = true := decide_eq_true c13); clear c13; (by_cases c14 : x24_1 < (y107.length : Int))
        ·rw [if_pos c14] at H
         (have c14b0 : decide (x24_1 < (y107.length : Int)) = true := decide_eq_true c14); clear c14; (replace H := Option.bind_eq_some_iff.mp H); (obtain ⟨t113, A150, H⟩ := H); (have A15 := Aside0.mk A150); clear A150; (replace H := Option.bind_eq_some_iff.mp H); (obtain ⟨⟨t116, t117, t118, t119, t120, t123, t124, t125⟩, A160, H⟩ := H); (replace H : (if t125 = true then (if x4_1.length < 1599289640401 then (impl_ParseForm.l0 k1 a0 (x4_1 ++ [(⟨t116, t117, t118, t119, t120, t123, t124⟩ : S54)]) y107 (y107.length : Int) (wrap64 (x24_1 + 1))) else (none)) else (some (([] : List (S54)), false))) = some (r1, r2) := H); (have A16 := Aside0.mk A160); clear A160; (by_cases c17 : t125 = true)
         ·subst c17
          (rw [if_pos rfl] at H); (by_cases c18 : x4_1.length < 1599289640401)
          ·rw [if_pos c18] at H
           (have LMc18 := Aside0.mk c18); clear c18; (obtain ⟨y127, hy127⟩ : ∃ y_ : List (S54), y_ = (x4_1 ++ [(⟨t116, t117, t118, t119, t120, t123, t124⟩ : S54)]) := ⟨_, rfl⟩); (replace H : (impl_ParseForm.l0 k1 a0 y127 y107 (y107.length : Int) (wrap64 (x24_1 + 1))) = some (r1, r2) := Q159); (have Ny127 := Aside0.mk hy127); clear hy127; (have H' := Aside0.mk H); clear H; (have p112 : 0 ≤ (x24_1 : Int) := of_decide_eq_true Q32); (have q112 : x24_1 < (y107.length : Int) := of_decide_eq_true Q32); (obtain ⟨ad112, e112, hx112_0⟩ := Kd.at_string (Kd.R_reads' HO_22.out).2.2 x24_1 p112 q112); (cases e112); (replace p112 := eq_true p112); (replace q112 := eq_true q112)
           go_wp2_with (first | ((with_reducible refine gate_callee (f := 29) rfl ?_); refine gL (some 30) Tryd.func29 #[.string (rdOf ByteArray.empty y107 x24_1), .string (⟨#[32]⟩ : ByteArray)] ?_; (with_reducible refine (strings_Split.calls (rdOf ByteArray.empty y107 x24_1) (⟨#[32]⟩ : ByteArray) t113 _ ?side1 A15.out).mono ?_); (case side1 => first | exact Q187 | (repeat (first | exact HG.out | (with_reducible first | apply GE.drewN | apply GE.drew | apply GE.alloc)))); rintro e w19 ⟨v114, rfl, ho0, hb⟩; refine ⟨_, rfl, ?_⟩; have n0_ := Aside0.mk (Kd.S_elder' Q188 (Kd.R_base ho0) hb); have n1_ := Aside0.mk (Kd.R_elder' Q189 (Kd.R_base ho0) hb); have n2_ := Aside0.mk (Kd.R_lower (Kd.R_new' ho0 (Kd.R_lt Q189)) (below_size Q31)); have n3_ := Aside0.mk (below_step Q31 hb); clear HO_4 HO_22 HB; have HO_4 := n0_; have HO_22 := n1_; have HO115 := n2_; have HB := n3_; clear n0_ n1_ n2_ n3_; (try clear hb); (try clear hb2); (try clear hk); (try clear hi); (try clear ho0); obtain ⟨Ao20, co20, eo20⟩ := Kd.R_slice HO115.out; subst eo20) | ((with_reducible refine gate_callee (f := 30) rfl ?_); refine gL (some 31) Tryd.func30 #[.slice Ao20 t113.length co20] ?_; (with_reducible refine (impl_fieldOfWords.calls k1 (fun k_ => some k_ = (.slice Ao20 t113.length co20 : Value).ownBlock) _ _ t113 t116 t117 t118 t119 t120 t123 t124 true _ ?side1 ?side2 A16.out).mono ?_); (case side1 => exact Q190); (case side2 => first | exact Q187 | (repeat (first | exact HG.out | (with_reducible first | apply GE.drewN | apply GE.drew | apply GE.alloc)))); rintro e w21 ⟨v121, rfl, ho0, hb⟩; refine ⟨_, rfl, ?_⟩; have n0_ := Aside0.mk (Kd.S_elder' Q188 (Kd.R_base ho0) hb); have n1_ := Aside0.mk (Kd.R_elder' Q189 (Kd.R_base ho0) hb); have n2_ := Aside0.mk (Kd.R_elder' Q191 (Kd.R_base ho0) hb); have n3_ := Aside0.mk (Kd.R_lower (Kd.R_new' (Kd.R_new' (Kd.R_mono (ok' := fun k_ => True) ho0 (fun _ hk_ => trivial)) (Kd.R_lt Q189)) (Kd.R_lt Q191)) (below_size Q31)); have n4_ := Aside0.mk (below_step Q31 hb); clear HO_4 HO_22 HO115 HB; have HO_4 := n0_; have HO_22 := n1_; have HO115 := n2_; have HO122 := n3_; have HB := n4_; clear n0_ n1_ n2_ n3_ n4_; (try clear hb); (try clear hb2); (try clear hk); (try clear hi); (try clear ho0)) | ((with_reducible refine gate_dst (N := 8) rfl ?_); refine box_event ?hg (N := 8) ?hd (cs := #[.string (⟨#[]⟩ : ByteArray), .int .i64 0, .int .i64 0, .int .i64 0, .slice none 0 0, .bool false, .string (⟨#[]⟩ : ByteArray)]) (t := 54) ?hr ?_; (case hd => rfl); (case hg => rfl); (case hr => first | (go_simp; done) | (go_simp; rfl)); intro gb126 hg w22 hbox hb; have n0_ := Aside0.mk (Kd.S_below (Kd.S_elderB Q188 gb126 (Nat.le_of_eq hg.symm)) hb); have n1_ := Aside0.mk (Kd.R_below Q189 hb); have n2_ := Aside0.mk (Kd.R_below Q191 hb); have n3_ := Aside0.mk (Kd.R_below Q192 hb); have hB_ := bz Q31 hb; have n4_ := Aside0.mk (below_step hB_ hb); have n5_ := Aside0.mk (hbox); have n6_ := Aside0.mk ((Q147 : w.heap.size ≤ gb126)); have n7_ := n6_; clear HO_4 HO_22 HO115 HO122 HB; have HO_4 := n0_; have HO_22 := n1_; have HO115 := n2_; have HO122 := n3_; have HB := n4_; have BK126 := n5_; have GW126 := n6_; have GE126 := n7_; clear n0_ n1_ n2_ n3_ n4_ n5_ n6_ n7_ hB_ hb hbox hg; have hcz23_0 := cz BK126.out 0; have hcz23_1 := cz BK126.out 1; have hcz23_2 := cz BK126.out 2; have hcz23_3 := cz BK126.out 3; have hcz23_4 := cz BK126.out 4; have hcz23_5 := cz BK126.out 5; have hcz23_6 := cz BK126.out 6; have hfz23_0 := blk_frozen BK126.out 0; have hfz23_1 := blk_frozen BK126.out 1; have hfz23_2 := blk_frozen BK126.out 2; have hfz23_3 := blk_frozen BK126.out 3; have hfz23_4 := blk_frozen BK126.out 4; have hfz23_5 := blk_frozen BK126.out 5; have hfz23_6 := blk_frozen BK126.out 6; obtain ⟨Ao24, co24, eo24⟩ := Kd.R_slice HO122.out; subst eo24) | ((with_reducible refine gate_store (t := 54) (p := 8) rfl ?_); refine store_event (t := 54) (p := 8) (v := ?vo_w25) (w1 := (((((((w22.setCell ⟨gb126, 0, none⟩ (.string t116)).setCell ⟨gb126, 1, none⟩ (.int .i64 t117)).setCell ⟨gb126, 2, none⟩ (.int .i64 t118)).setCell ⟨gb126, 3, none⟩ (.int .i64 t119)).setCell ⟨gb126, 4, none⟩ (.slice Ao24 t120.length co24)).setCell ⟨gb126, 5, none⟩ (.bool t123)).setCell ⟨gb126, 6, none⟩ (.string t124))) ?hg ?ho ?hn ?hr ?_; (case ho => rfl); (case hg => rfl); (case hn => rfl); (case hr => first | (go_simp; done) | (go_simp; rfl)); intro w25 hw; have n0_ : Aside0 (Kd.S k54 54 w25 w.heap.size (fun k_ => some k_ ≠ (.slice (some ad112) y107.length co10 : Value).ownBlock ∧ some k_ ≠ (.slice Ao20 t113.length co20 : Value).ownBlock ∧ some k_ ≠ (.slice Ao24 t120.length co24 : Value).ownBlock ∧ k_ ≠ gb126) u4 x4_1) := ⟨(by rw [hw]; exact (by (with_reducible repeat (first | apply Kd.S_alloc | apply Kd.S_drewN | apply Kd.S_drew)); exact Kd.S_mono (Kd.S_far (p := ⟨gb126, 6, none⟩) (Kd.S_far (p := ⟨gb126, 5, none⟩) (Kd.S_far (p := ⟨gb126, 4, none⟩) (Kd.S_far (p := ⟨gb126, 3, none⟩) (Kd.S_far (p := ⟨gb126, 2, none⟩) (Kd.S_far (p := ⟨gb126, 1, none⟩) (Kd.S_far (p := ⟨gb126, 0, none⟩) (Kd.S_mono HO_4.out (fun k_ hk => (⟨hk, hk.2⟩ : _ ∧ k_ ≠ gb126))) (fun _ hk => hk.2) (.string t116)) (fun _ hk => hk.2) (.int .i64 t117)) (fun _ hk => hk.2) (.int .i64 t118)) (fun _ hk => hk.2) (.int .i64 t119)) (fun _ hk => hk.2) (.slice Ao24 t120.length co24)) (fun _ hk => hk.2) (.bool t123)) (fun _ hk => hk.2) (.string t124)) (fun _ hk => ⟨hk.1.1.1.1, ⟨hk.1.1.1.2, ⟨hk.1.1.2, hk.1.2⟩⟩⟩)))⟩; have n1_ : Aside0 (Kd.R Kd.string 9 w25 w.heap.size (fun k_ => some k_ ≠ (.slice Ao20 t113.length co20 : Value).ownBlock ∧ some k_ ≠ (.slice Ao24 t120.length co24 : Value).ownBlock) (.slice (some ad112) y107.length co10) y107) := ⟨(by rw [hw]; exact (by (with_reducible repeat (first | apply rA | apply rN | apply rD)); exact Kd.R_mono (Kd.R_far (p := ⟨gb126, 6, none⟩) (Kd.R_far (p := ⟨gb126, 5, none⟩) (Kd.R_far (p := ⟨gb126, 4, none⟩) (Kd.R_far (p := ⟨gb126, 3, none⟩) (Kd.R_far (p := ⟨gb126, 2, none⟩) (Kd.R_far (p := ⟨gb126, 1, none⟩) (Kd.R_far (p := ⟨gb126, 0, none⟩) (Kd.R_types HO_22.out BK126.out (by decide)) (fun _ hk => hk.2) (.string t116)) (fun _ hk => hk.2) (.int .i64 t117)) (fun _ hk => hk.2) (.int .i64 t118)) (fun _ hk => hk.2) (.int .i64 t119)) (fun _ hk => hk.2) (.slice Ao24 t120.length co24)) (fun _ hk => hk.2) (.bool t123)) (fun _ hk => hk.2) (.string t124)) (fun _ hk => ⟨hk.1.1.2, hk.1.2⟩)))⟩; have n2_ : Aside0 (Kd.R Kd.string 9 w25 w.heap.size (fun k_ => some k_ ≠ (.slice (some ad112) y107.length co10 : Value).ownBlock ∧ some k_ ≠ (.slice Ao24 t120.length co24 : Value).ownBlock) (.slice Ao20 t113.length co20) t113) := ⟨(by rw [hw]; exact (by (with_reducible repeat (first | apply rA | apply rN | apply rD)); exact Kd.R_mono (Kd.R_far (p := ⟨gb126, 6, none⟩) (Kd.R_far (p := ⟨gb126, 5, none⟩) (Kd.R_far (p := ⟨gb126, 4, none⟩) (Kd.R_far (p := ⟨gb126, 3, none⟩) (Kd.R_far (p := ⟨gb126, 2, none⟩) (Kd.R_far (p := ⟨gb126, 1, none⟩) (Kd.R_far (p := ⟨gb126, 0, none⟩) (Kd.R_types HO115.out BK126.out (by decide)) (fun _ hk => hk.2) (.string t116)) (fun _ hk => hk.2) (.int .i64 t117)) (fun _ hk => hk.2) (.int .i64 t118)) (fun _ hk => hk.2) (.int .i64 t119)) (fun _ hk => hk.2) (.slice Ao24 t120.length co24)) (fun _ hk => hk.2) (.bool t123)) (fun _ hk => hk.2) (.string t124)) (fun _ hk => ⟨hk.1.1.2, hk.1.2⟩)))⟩; have n3_ : Aside0 (Kd.R Kd.string 9 w25 w.heap.size (fun k_ => some k_ ≠ (.slice (some ad112) y107.length co10 : Value).ownBlock ∧ some k_ ≠ (.slice Ao20 t113.length co20 : Value).ownBlock) (.slice Ao24 t120.length co24) t120) := ⟨(by rw [hw]; exact (by (with_reducible repeat (first | apply rA | apply rN | apply rD)); exact Kd.R_mono (Kd.R_far (p := ⟨gb126, 6, none⟩) (Kd.R_far (p := ⟨gb126, 5, none⟩) (Kd.R_far (p := ⟨gb126, 4, none⟩) (Kd.R_far (p := ⟨gb126, 3, none⟩) (Kd.R_far (p := ⟨gb126, 2, none⟩) (Kd.R_far (p := ⟨gb126, 1, none⟩) (Kd.R_far (p := ⟨gb126, 0, none⟩) (Kd.R_types HO122.out BK126.out (by decide)) (fun _ hk => hk.2) (.string t116)) (fun _ hk => hk.2) (.int .i64 t117)) (fun _ hk => hk.2) (.int .i64 t118)) (fun _ hk => hk.2) (.int .i64 t119)) (fun _ hk => hk.2) (.slice Ao24 t120.length co24)) (fun _ hk => hk.2) (.bool t123)) (fun _ hk => hk.2) (.string t124)) (fun _ hk => ⟨hk.1.1.2, hk.1.2⟩)))⟩; have n4_ : Aside0 (w25.heap[gb126]? = some (.cells #[.string t116, .int .i64 t117, .int .i64 t118, .int .i64 t119, .slice Ao24 t120.length co24, .bool t123, .string t124] 54 (0, 0))) := ⟨(by rw [hw]; exact (by (with_reducible repeat (first | refine kN ?_ _ | refine kD ?_ | refine kA ?_ _)); refine blk_put (cs := #[.string t116, .int .i64 t117, .int .i64 t118, .int .i64 t119, .slice Ao24 t120.length co24, .bool t123, .string (⟨#[]⟩ : ByteArray)]) ?_ 6 _ rfl; (with_reducible repeat (first | refine kN ?_ _ | refine kD ?_ | refine kA ?_ _)); refine blk_put (cs := #[.string t116, .int .i64 t117, .int .i64 t118, .int .i64 t119, .slice Ao24 t120.length co24, .bool false, .string (⟨#[]⟩ : ByteArray)]) ?_ 5 _ rfl; (with_reducible repeat (first | refine kN ?_ _ | refine kD ?_ | refine kA ?_ _)); refine blk_put (cs := #[.string t116, .int .i64 t117, .int .i64 t118, .int .i64 t119, .slice none 0 0, .bool false, .string (⟨#[]⟩ : ByteArray)]) ?_ 4 _ rfl; (with_reducible repeat (first | refine kN ?_ _ | refine kD ?_ | refine kA ?_ _)); refine blk_put (cs := #[.string t116, .int .i64 t117, .int .i64 t118, .int .i64 0, .slice none 0 0, .bool false, .string (⟨#[]⟩ : ByteArray)]) ?_ 3 _ rfl; (with_reducible repeat (first | refine kN ?_ _ | refine kD ?_ | refine kA ?_ _)); refine blk_put (cs := #[.string t116, .int .i64 t117, .int .i64 0, .int .i64 0, .slice none 0 0, .bool false, .string (⟨#[]⟩ : ByteArray)]) ?_ 2 _ rfl; (with_reducible repeat (first | refine kN ?_ _ | refine kD ?_ | refine kA ?_ _)); refine blk_put (cs := #[.string t116, .int .i64 0, .int .i64 0, .int .i64 0, .slice none 0 0, .bool false, .string (⟨#[]⟩ : ByteArray)]) ?_ 1 _ rfl; (with_reducible repeat (first | refine kN ?_ _ | refine kD ?_ | refine kA ?_ _)); refine blk_put (cs := #[.string (⟨#[]⟩ : ByteArray), .int .i64 0, .int .i64 0, .int .i64 0, .slice none 0 0, .bool false, .string (⟨#[]⟩ : ByteArray)]) ?_ 0 _ rfl; (with_reducible repeat (first | refine kN ?_ _ | refine kD ?_ | refine kA ?_ _)); exact BK126.out))⟩; have n5_ : Aside0 (Below w.heap.size w w25) := ⟨(by rw [hw]; exact Q193)⟩; clear hw HO_4 HO_22 HO115 HO122 BK126 HB; have HO_4 := n0_; have HO_22 := n1_; have HO115 := n2_; have HO122 := n3_; have BK126 := n4_; have HB := n5_; clear n0_ n1_ n2_ n3_ n4_ n5_; have hcz26_0 := cz BK126.out 0; have hcz26_1 := cz BK126.out 1; have hcz26_2 := cz BK126.out 2; have hcz26_3 := cz BK126.out 3; have hcz26_4 := cz BK126.out 4; have hcz26_5 := cz BK126.out 5; have hcz26_6 := cz BK126.out 6; have hfz26_0 := blk_frozen BK126.out 0; have hfz26_1 := blk_frozen BK126.out 1; have hfz26_2 := blk_frozen BK126.out 2; have hfz26_3 := blk_frozen BK126.out 3; have hfz26_4 := blk_frozen BK126.out 4; have hfz26_5 := blk_frozen BK126.out 5; have hfz26_6 := blk_frozen BK126.out 6) | ((with_reducible refine gate_builtin (b := .append) (xs := #[.tmp 36, .tmp 38]) rfl ?_); at_builtin; refine Kd.S_append k54 (w0 := w) w.heap.size rfl (.tmp 36) (.tmp 38) 24 54 (.agg #[(.string ⟨#[]⟩), (.int .i64 0), (.int .i64 0), (.int .i64 0), (.slice none 0 0), (.bool false), (.string ⟨#[]⟩)]) 88 rfl Tryd.underlying24 info54 rfl (by decide) (by omega) u4 x4_1 (⟨t116, t117, t118, t119, t120, t123, t124⟩ : S54) [.string t116, .int .i64 t117, .int .i64 t118, .int .i64 t119, .slice Ao24 t120.length co24, .bool t123, .string t124] (fun k_ => some k_ ≠ (.slice (some ad112) y107.length co10 : Value).ownBlock ∧ some k_ ≠ (.slice Ao20 t113.length co20 : Value).ownBlock ∧ k_ ≠ gb126) (fun k_ => some k_ = (.slice Ao24 t120.length co24 : Value).ownBlock) rfl rfl ?aP (fun k_ hk_ => ((Kd.R_mono (ok' := fun k_ => ((fun k_ => some k_ ≠ (.slice (some ad112) y107.length co10 : Value).ownBlock ∧ some k_ ≠ (.slice Ao20 t113.length co20 : Value).ownBlock ∧ k_ ≠ gb126)) k_ ∧ some k_ ≠ (u4 : Value).ownBlock) (Kd.R_types (Kd.R_apart' (HO122.out) (Kd.S_typed HO_4.out) (by decide)) BK126.out (by decide)) (fun k_ hk => ⟨⟨hk.1.1.1, ⟨hk.1.1.2, hk.2⟩⟩, hk.1.2⟩))).1 k_ hk_.symm) ?aF ?aO ?aB ?aS ?aL ?_; (case aP => exact k54_mkM _ _ _ (⟨t116, t117, t118, t119, t120, t123, t124⟩ : S54) (Kd.R_mono (Kd.R_tight rfl (Kd.R_mono (ok' := fun k_ => ((fun k_ => some k_ ≠ (.slice (some ad112) y107.length co10 : Value).ownBlock ∧ some k_ ≠ (.slice Ao20 t113.length co20 : Value).ownBlock ∧ k_ ≠ gb126)) k_ ∧ some k_ ≠ (u4 : Value).ownBlock) (Kd.R_types (Kd.R_apart' (HO122.out) (Kd.S_typed HO_4.out) (by decide)) BK126.out (by decide)) (fun k_ hk => ⟨⟨hk.1.1.1, ⟨hk.1.1.2, hk.2⟩⟩, hk.1.2⟩))) (fun _ h_ => h_))); (case aB => exact Q193); (case aF => exact (fun k_ hk => ⟨Kd.fresh' (Kd.R_lt Q189) k_ hk, Kd.fresh' (Kd.R_lt Q191) k_ hk, Kd.freshB (g := gb126) (o := .cells #[.string t116, .int .i64 t117, .int .i64 t118, .int .i64 t119, .slice Ao24 t120.length co24, .bool t123, .string t124] 54 (0, 0)) Q194 k_ hk⟩)); (case aO => exact (by (with_reducible repeat (first | apply Kd.S_alloc | apply Kd.S_drewN | apply Kd.S_drew)); exact Kd.S_mono HO_4.out (fun k_ hk => ⟨⟨hk.1, ⟨hk.2.1, hk.2.2.2⟩⟩, fun e_ => hk.2.2.1 e_⟩))); (case aS => exact (below_size Q195)); (case aL => have := LMc18.out; omega); intro v128 w27 ho hb hg hat; rw [← Ny127.out] at ho; have n0_ := Aside0.mk (Kd.R_over' Q189 (Kd.S_typed Q188) (by decide) hg); have n1_ := Aside0.mk (Kd.R_over' Q191 (Kd.S_typed Q188) (by decide) hg); have n2_ := Aside0.mk (blk_grown Q194 hg (Kd.S_away HO_4.out (fun _ hk => hk.2.2.2))); have n3_ := Aside0.mk (hb); have n4_ := Aside0.mk (ho); clear HO_22 HO115 BK126 HB HO_4 HO122; have HO_22 := n0_; have HO115 := n1_; have BK126 := n2_; have HB := n3_; have HO129 := n4_; clear n0_ n1_ n2_ n3_ n4_ ho hb hg hat))
           go_roundg k1
           case measure => have := HK1.out; omega
           case rel => exact ⟨(y127), (wrap64 (x24_1 + 1)), Q5, H', ⟨Q16⟩, ⟨by (with_reducible repeat (first | apply Kd.S_alloc | apply Kd.S_drewN | apply Kd.S_drew)); exact Kd.S_mono HO129.out (fun _ hk => hk.1)⟩, ⟨by (with_reducible repeat (first | apply rA | apply rN | apply rD)); exact Kd.R_mono HO_22.out (fun _ hk => trivial)⟩, ⟨Q195⟩⟩
          ·rw [if_neg c18] at H
           exact Q3
         ·replace c17 := Bool.eq_false_iff.mpr c17
          subst c17; (rw [if_neg (show ¬ (false = true) by decide)] at H); (simp only [Option.some.injEq, Prod.mk.injEq] at H); (obtain ⟨rfl, rfl⟩ := H); (have p112 : 0 ≤ (x24_1 : Int) := of_decide_eq_true Q32); (have q112 : x24_1 < (y107.length : Int) := of_decide_eq_true Q32); (obtain ⟨ad112, e112, hx112_0⟩ := Kd.at_string (Kd.R_reads' HO_22.out).2.2 x24_1 p112 q112); (cases e112); (replace p112 := eq_true p112); (replace q112 := eq_true q112)
          go_wp2_with (first | ((with_reducible refine gate_callee (f := 29) rfl ?_); refine gL (some 30) Tryd.func29 #[.string (rdOf ByteArray.empty y107 x24_1), .string (⟨#[32]⟩ : ByteArray)] ?_; (with_reducible refine (strings_Split.calls (rdOf ByteArray.empty y107 x24_1) (⟨#[32]⟩ : ByteArray) t113 _ ?side1 A15.out).mono ?_); (case side1 => first | exact Q187 | (repeat (first | exact HG.out | (with_reducible first | apply GE.drewN | apply GE.drew | apply GE.alloc)))); rintro e w28 ⟨v114, rfl, ho0, hb⟩; refine ⟨_, rfl, ?_⟩; have n0_ := Aside0.mk (Kd.S_elder' Q188 (Kd.R_base ho0) hb); have n1_ := Aside0.mk (Kd.R_elder' Q189 (Kd.R_base ho0) hb); have n2_ := Aside0.mk (Kd.R_lower (Kd.R_new' ho0 (Kd.R_lt Q189)) (below_size Q31)); have n3_ := Aside0.mk (below_step Q31 hb); clear HO_4 HO_22 HB; have HO_4 := n0_; have HO_22 := n1_; have HO115 := n2_; have HB := n3_; clear n0_ n1_ n2_ n3_; (try clear hb); (try clear hb2); (try clear hk); (try clear hi); (try clear ho0); obtain ⟨Ao29, co29, eo29⟩ := Kd.R_slice HO115.out; subst eo29) | ((with_reducible refine gate_callee (f := 30) rfl ?_); refine gL (some 31) Tryd.func30 #[.slice Ao29 t113.length co29] ?_; (with_reducible refine (impl_fieldOfWords.calls k1 (fun k_ => some k_ = (.slice Ao29 t113.length co29 : Value).ownBlock) _ _ t113 t116 t117 t118 t119 t120 t123 t124 false _ ?side1 ?side2 A16.out).mono ?_); (case side1 => exact Q190); (case side2 => first | exact Q187 | (repeat (first | exact HG.out | (with_reducible first | apply GE.drewN | apply GE.drew | apply GE.alloc)))); rintro e w30 ⟨v121, rfl, ho0, hb⟩; refine ⟨_, rfl, ?_⟩; have n0_ := Aside0.mk (Kd.S_elder' Q188 (Kd.R_base ho0) hb); have n1_ := Aside0.mk (Kd.R_elder' Q189 (Kd.R_base ho0) hb); have n2_ := Aside0.mk (Kd.R_elder' Q191 (Kd.R_base ho0) hb); have n3_ := Aside0.mk (Kd.R_lower (Kd.R_new' (Kd.R_new' (Kd.R_mono (ok' := fun k_ => True) ho0 (fun _ hk_ => trivial)) (Kd.R_lt Q189)) (Kd.R_lt Q191)) (below_size Q31)); have n4_ := Aside0.mk (below_step Q31 hb); clear HO_4 HO_22 HO115 HB; have HO_4 := n0_; have HO_22 := n1_; have HO115 := n2_; have HO122 := n3_; have HB := n4_; clear n0_ n1_ n2_ n3_ n4_; (try clear hb); (try clear hb2); (try clear hk); (try clear hi); (try clear ho0)) | ((with_reducible refine gate_dst (N := 8) rfl ?_); refine box_event ?hg (N := 8) ?hd (cs := #[.string (⟨#[]⟩ : ByteArray), .int .i64 0, .int .i64 0, .int .i64 0, .slice none 0 0, .bool false, .string (⟨#[]⟩ : ByteArray)]) (t := 54) ?hr ?_; (case hd => rfl); (case hg => rfl); (case hr => first | (go_simp; done) | (go_simp; rfl)); intro gb126 hg w31 hbox hb; have n0_ := Aside0.mk (Kd.S_below (Kd.S_elderB Q188 gb126 (Nat.le_of_eq hg.symm)) hb); have n1_ := Aside0.mk (Kd.R_below Q189 hb); have n2_ := Aside0.mk (Kd.R_below Q191 hb); have n3_ := Aside0.mk (Kd.R_below Q192 hb); have hB_ := bz Q31 hb; have n4_ := Aside0.mk (below_step hB_ hb); have n5_ := Aside0.mk (hbox); have n6_ := Aside0.mk ((Q147 : w.heap.size ≤ gb126)); have n7_ := n6_; clear HO_4 HO_22 HO115 HO122 HB; have HO_4 := n0_; have HO_22 := n1_; have HO115 := n2_; have HO122 := n3_; have HB := n4_; have BK126 := n5_; have GW126 := n6_; have GE126 := n7_; clear n0_ n1_ n2_ n3_ n4_ n5_ n6_ n7_ hB_ hb hbox hg; have hcz32_0 := cz BK126.out 0; have hcz32_1 := cz BK126.out 1; have hcz32_2 := cz BK126.out 2; have hcz32_3 := cz BK126.out 3; have hcz32_4 := cz BK126.out 4; have hcz32_5 := cz BK126.out 5; have hcz32_6 := cz BK126.out 6; have hfz32_0 := blk_frozen BK126.out 0; have hfz32_1 := blk_frozen BK126.out 1; have hfz32_2 := blk_frozen BK126.out 2; have hfz32_3 := blk_frozen BK126.out 3; have hfz32_4 := blk_frozen BK126.out 4; have hfz32_5 := blk_frozen BK126.out 5; have hfz32_6 := blk_frozen BK126.out 6; obtain ⟨Ao33, co33, eo33⟩ := Kd.R_slice HO122.out; subst eo33))
          (go_ret2); (exact ⟨_, Q196, Q186, Q195⟩)
        ·rw [if_neg c14] at H
         exact Q3
       ·rw [if_neg c13] at H
        exact Q3
      ·rw [if_neg c12] at H
       (have c12b0 : decide (x24_1 < (y107.length : Int)) = false := decide_eq_false c12); clear c12; (replace H := Option.bind_eq_some_iff.mp H); (obtain ⟨⟨t110, t111⟩, A340, H⟩ := H); (replace H : (if t111 = true then (if t110.toList = a0.toList then (some (x4_1, true)) else (some (([] : List (S54)), false))) else (some (([] : List (S54)), false))) = some (r1, r2) := H); (have A34 := Aside0.mk A340); clear A340; (by_cases c35 : t111 = true)
       ·subst c35
        (rw [if_pos rfl] at H); (by_cases c36 : t110.toList = a0.toList); (· (rw [if_pos c36] at H); (have c36b0 : (t110.toList == a0.toList) = true := beq_iff_eq.mpr c36); (have c36b1 : (t110.toList != a0.toList) = false := bne_eq_false_iff_eq.mpr c36); clear c36; (simp only [Option.some.injEq, Prod.mk.injEq] at H); (obtain ⟨rfl, rfl⟩ := H); (obtain ⟨Ao37, co37, eo37⟩ := Kd.S_slice HO_4.out); subst eo37; (go_wp2_with (first | ((with_reducible refine gate_callee (f := 7) rfl ?_); refine gL (some 43) Tryd.func7 #[.slice Ao37 x4_1.length co37] ?_; (with_reducible refine (impl_FormatForm.calls k1 _ _ x4_1 t110 true _ ?side1 ?side2 ?side3 A34.out).mono ?_); (case side1 => repeat (first | exact (Kd.S_reads' HO_4.out).2.2 | (with_reducible first | refine cA ?_ _ | refine cN ?_ _ | refine cD ?_))); (case side2 => exact (Kd.S_reads' HO_4.out).2.1); (case side3 => first | exact Q197 | (repeat (first | exact HG.out.gt | (with_reducible first | apply GT.drewN | apply GT.drew | apply GT.alloc)))); rintro e w38 ⟨rfl, hb⟩; refine ⟨_, rfl, ?_⟩; have n0_ := Aside0.mk (Kd.S_below Q188 hb); have n1_ := Aside0.mk (Kd.R_below Q189 hb); have n2_ := Aside0.mk (below_step Q31 hb); clear HO_4 HO_22 HB; have HO_4 := n0_; have HO_22 := n1_; have HB := n2_; clear n0_ n1_ n2_; (try clear hb); (try clear hb2); (try clear hk); (try clear hi)))); (go_ret2); (exact ⟨_, Q196, by (with_reducible repeat (first | apply Kd.S_alloc | apply Kd.S_drewN | apply Kd.S_drew)); exact Kd.S_mono HO_4.out (fun _ hk => trivial), Q31⟩)); (· (rw [if_neg c36] at H); (have c36b0 : (t110.toList == a0.toList) = false := beq_eq_false_iff_ne.mpr c36); (have c36b1 : (t110.toList != a0.toList) = true := bne_iff_ne.mpr c36); (simp only [Option.some.injEq, Prod.mk.injEq] at H); (obtain ⟨rfl, rfl⟩ := H); (obtain ⟨Ao39, co39, eo39⟩ := Kd.S_slice HO_4.out); subst eo39; (go_wp2_with (first | ((with_reducible refine gate_callee (f := 7) rfl ?_); refine gL (some 43) Tryd.func7 #[.slice Ao39 x4_1.length co39] ?_; (with_reducible refine (impl_FormatForm.calls k1 _ _ x4_1 t110 true _ ?side1 ?side2 ?side3 A34.out).mono ?_); (case side1 => repeat (first | exact (Kd.S_reads' HO_4.out).2.2 | (with_reducible first | refine cA ?_ _ | refine cN ?_ _ | refine cD ?_))); (case side2 => exact (Kd.S_reads' HO_4.out).2.1); (case side3 => first | exact Q197 | (repeat (first | exact HG.out.gt | (with_reducible first | apply GT.drewN | apply GT.drew | apply GT.alloc)))); rintro e w40 ⟨rfl, hb⟩; refine ⟨_, rfl, ?_⟩; have n0_ := Aside0.mk (Kd.S_below Q188 hb); have n1_ := Aside0.mk (Kd.R_below Q189 hb); have n2_ := Aside0.mk (below_step Q31 hb); clear HO_4 HO_22 HB; have HO_4 := n0_; have HO_22 := n1_; have HB := n2_; clear n0_ n1_ n2_; (try clear hb); (try clear hb2); (try clear hk); (try clear hi)))); (go_ret2); (exact Q198))
       ·replace c35 := Bool.eq_false_iff.mpr c35
        subst c35; (rw [if_neg (show ¬ (false = true) by decide)] at H); (simp only [Option.some.injEq, Prod.mk.injEq] at H); (obtain ⟨rfl, rfl⟩ := H); (obtain ⟨Ao41, co41, eo41⟩ := Kd.S_slice HO_4.out); subst eo41; (go_wp2_with (first | ((with_reducible refine gate_callee (f := 7) rfl ?_); refine gL (some 43) Tryd.func7 #[.slice Ao41 x4_1.length co41] ?_; (with_reducible refine (impl_FormatForm.calls k1 _ _ x4_1 t110 false _ ?side1 ?side2 ?side3 A34.out).mono ?_); (case side1 => repeat (first | exact (Kd.S_reads' HO_4.out).2.2 | (with_reducible first | refine cA ?_ _ | refine cN ?_ _ | refine cD ?_))); (case side2 => exact (Kd.S_reads' HO_4.out).2.1); (case side3 => first | exact Q197 | (repeat (first | exact HG.out.gt | (with_reducible first | apply GT.drewN | apply GT.drew | apply GT.alloc)))); rintro e w42 ⟨rfl, hb⟩; refine ⟨_, rfl, ?_⟩; have n0_ := Aside0.mk (Kd.S_below Q188 hb); have n1_ := Aside0.mk (Kd.R_below Q189 hb); have n2_ := Aside0.mk (below_step Q31 hb); clear HO_4 HO_22 HB; have HO_4 := n0_; have HO_22 := n1_; have HB := n2_; clear n0_ n1_ n2_; (try clear hb); (try clear hb2); (try clear hk); (try clear hi)))); (go_ret2); (exact Q198)
   ·rw [if_neg c6] at H
    exact Q3
  ·rw [if_neg c5] at H
   exact Q3
/-! ### spec_FormatForm: function 9 -/
def spec_FormatForm.f (k : Nat) (l0 : List (S54)) : Option (ByteArray × Bool) := (spec_l23Good.f k l0).bind fun t101 => (if t101 = true then ((spec_l23Lines.f k l0).bind fun bt102 => (some (bt102.1, bt102.2))) else (some ((⟨#[]⟩ : ByteArray), false)))
set_option maxHeartbeats 8000000 in
set_option maxRecDepth 100000 in
theorem spec_FormatForm.calls (k : Nat) (A0 : Option Addr) (c0 : Nat) (l0 : List (S54)) (r1 : ByteArray) (r2 : Bool) (w : World) (hr0 : Kd.C k54 w A0 l0.length l0) (hc0 : l0.length ≤ c0) (h : spec_FormatForm.f k l0 = some (r1, r2)) :
  Calls Tryd.prog 9 #[.slice A0 l0.length c0] w fun e w' => e = .returned (.tuple #[.string r1, .bool r2]) ∧ Below w.heap.size w w' := by
 (have HR0 := Aside0.mk hr0); (have HC0 := Aside0.mk hc0); clear hr0 hc0; (have HB := Aside0.mk (Below.refl w.heap.size w)); (unfold spec_FormatForm.f at h); (have H := h); clear h; (replace H := obS H); (obtain ⟨t101, A2, H⟩ := H); (by_cases c3 : t101 = true)
 ·subst c3
  (rw [if_pos rfl] at H); (replace H := obS H); (obtain ⟨⟨t102, t103⟩, A4, H⟩ := H); (replace H : (some (t102, t103)) = some (r1, r2) := H); (simp only [Option.some.injEq, Prod.mk.injEq] at H); (obtain ⟨rfl, rfl⟩ := H); (go_enter Tryd.func9, Tryd.ntmps9); (go_wp2_with (first | ((with_reducible refine gate_callee (f := 31) rfl ?_); refine gL (some 5) Tryd.func31 #[.slice A0 l0.length c0] ?_; (with_reducible refine (spec_l23Good.calls k _ _ l0 true _ ?side1 ?side2 A2.out).mono ?_); (case side1 => exact cI HR0.out); (case side2 => exact HC0.out); rintro e w5 ⟨rfl, hb⟩; refine ⟨_, rfl, ?_⟩; have n0_ := Aside0.mk (sI hb HB); clear HB; have HB := n0_; clear n0_; (try clear hb); (try clear hb2); (try clear hk); (try clear hi)) | ((with_reducible refine gate_callee (f := 32) rfl ?_); refine gL (some 8) Tryd.func32 #[.slice A0 l0.length c0] ?_; (with_reducible refine (spec_l23Lines.calls k _ _ l0 t102 t103 _ ?side1 ?side2 A4.out).mono ?_); (case side1 => exact Q4); (case side2 => exact HC0.out); rintro e w6 ⟨rfl, hb⟩; refine ⟨_, rfl, ?_⟩; have n0_ := Aside0.mk (sI hb HB); clear HB; have HB := n0_; clear n0_; (try clear hb); (try clear hb2); (try clear hk); (try clear hi)))); (go_ret2); (exact Q7)
 ·replace c3 := Bool.eq_false_iff.mpr c3
  subst c3; (rw [if_neg (show ¬ (false = true) by decide)] at H); (simp only [Option.some.injEq, Prod.mk.injEq] at H); (obtain ⟨rfl, rfl⟩ := H); (go_enter Tryd.func9, Tryd.ntmps9); (go_wp2_with (first | ((with_reducible refine gate_callee (f := 31) rfl ?_); refine gL (some 5) Tryd.func31 #[.slice A0 l0.length c0] ?_; (with_reducible refine (spec_l23Good.calls k _ _ l0 false _ ?side1 ?side2 A2.out).mono ?_); (case side1 => exact cI HR0.out); (case side2 => exact HC0.out); rintro e w7 ⟨rfl, hb⟩; refine ⟨_, rfl, ?_⟩; have n0_ := Aside0.mk (sI hb HB); clear HB; have HB := n0_; clear n0_; (try clear hb); (try clear hb2); (try clear hk); (try clear hi)))); (go_ret2); (exact Q7)
/-! ### laws_FnForms: function 3 -/
def laws_FnForms.j0 : Nat → List Int → Bool → Option (Bool)
 | 0, _, _ => none
 | k + 1, x0, x56 => if x56 = true then (some false) else ((spec_DrawParseForm.f k x0).bind fun t116 => ((impl_ParseForm.f k t116).bind fun bt117 => ((impl_FormatForm.f k bt117.1).bind fun bt121 => (if bt117.2 = true then (if bt121.2 = true then (some (bt121.1.toList == t116.toList)) else (some false)) else (some true)))))
def laws_FnForms.f (k : Nat) (l0 : List Int) : Option (Bool) := (laws_vBig.f l0).bind fun t101 => (if t101 = true then (some true) else ((spec_DrawFormatForm.f k l0).bind fun t102 => ((impl_FormatForm.f k t102).bind fun bt105 => ((impl_ParseForm.f k bt105.1).bind fun bt107 => ((spec_FormatForm.f k t102).bind fun bt111 => (if (bt105.2 != bt111.2) = true then (laws_FnForms.j0 k l0 true) else ((impl_IsValidForm.f k t102).bind fun t113 => ((spec_IsValidForm.f k t102).bind fun t114 => (if (t113 != t114) = true then (laws_FnForms.j0 k l0 true) else (if bt105.2 = true then (if bt107.2 = true then ((laws_vForms.f k bt107.1 t102).bind fun t115 => (laws_FnForms.j0 k l0 (!t115))) else (laws_FnForms.j0 k l0 true)) else (laws_FnForms.j0 k l0 false)))))))))))
set_option maxHeartbeats 8000000 in
set_option maxRecDepth 100000 in
theorem laws_FnForms.calls (k : Nat) (A0 : Option Addr) (c0 : Nat) (l0 : List Int) (r : Bool) (w : World) (hr0 : Kd.C (Kd.int .u8) w A0 l0.length l0) (hc0 : l0.length ≤ c0) (hG : GE w) (h : laws_FnForms.f k l0 = some r) (ht_ : Aside0 (r = true)) :
  Calls Tryd.prog 3 #[.slice A0 l0.length c0] w fun e w' => e = .returned (.bool r) ∧ Below w.heap.size w w' := by
 (have HR0 := Aside0.mk hr0); (have HC0 := Aside0.mk hc0); clear hr0 hc0; (have HG := Aside0.mk hG); clear hG; (have HB := Aside0.mk (Below.refl w.heap.size w)); (have H : ((laws_vBig.f l0).bind fun t101 => (if t101 = true then (some true) else ((spec_DrawFormatForm.f k l0).bind fun t102 => ((impl_FormatForm.f k t102).bind fun bt105 => ((impl_ParseForm.f k bt105.1).bind fun bt107 => ((spec_FormatForm.f k t102).bind fun bt111 => (if (bt105.2 != bt111.2) = true then (laws_FnForms.j0 k l0 true) else ((impl_IsValidForm.f k t102).bind fun t113 => ((spec_IsValidForm.f k t102).bind fun t114 => (if (t113 != t114) = true then (laws_FnForms.j0 k l0 true) else (if bt105.2 = true then (if bt107.2 = true then ((laws_vForms.f k bt107.1 t102).bind fun t115 => (laws_FnForms.j0 k l0 (!t115))) else (laws_FnForms.j0 k l0 true)) else (laws_FnForms.j0 k l0 false)))))))))))) = some r := h); clear h; (replace H := Option.bind_eq_some_iff.mp H); (obtain ⟨t101, A20, H⟩ := H); (have A2 := Aside0.mk A20); clear A20; (by_cases c3 : t101 = true); (· subst c3; (rw [if_pos rfl] at H); (obtain rfl := Option.some.inj H); (go_enter Tryd.func3, Tryd.ntmps3); (go_wp2_with (first | ((with_reducible refine gate_callee (f := 5) rfl ?_); refine gL (some 16) Tryd.func5 #[.slice A0 l0.length c0] ?_; (with_reducible refine (laws_vBig.calls _ _ l0 true _ ?side1 ?side2 A2.out).mono ?_); (case side1 => repeat (first | exact HR0.out | (with_reducible first | refine cA ?_ _ | refine cN ?_ _ | refine cD ?_))); (case side2 => exact HC0.out); rintro e w' ⟨rfl, ⟨nd, rfl⟩⟩; refine ⟨_, rfl, ?_⟩))); go_ret; (exact Q70))
 ·replace c3 := Bool.eq_false_iff.mpr c3
  subst c3; (rw [if_neg (show ¬ (false = true) by decide)] at H); (replace H := Option.bind_eq_some_iff.mp H); (obtain ⟨t102, A40, H⟩ := H); (have A4 := Aside0.mk A40); clear A40; (replace H := Option.bind_eq_some_iff.mp H); (obtain ⟨⟨t105, t106⟩, A50, H⟩ := H); (replace H : ((impl_ParseForm.f k t105).bind fun bt107 => ((spec_FormatForm.f k t102).bind fun bt111 => (if (t106 != bt111.2) = true then (laws_FnForms.j0 k l0 true) else ((impl_IsValidForm.f k t102).bind fun t113 => ((spec_IsValidForm.f k t102).bind fun t114 => (if (t113 != t114) = true then (laws_FnForms.j0 k l0 true) else (if t106 = true then (if bt107.2 = true then ((laws_vForms.f k bt107.1 t102).bind fun t115 => (laws_FnForms.j0 k l0 (!t115))) else (laws_FnForms.j0 k l0 true)) else (laws_FnForms.j0 k l0 false)))))))) = some r := H); (have A5 := Aside0.mk A50); clear A50; (replace H := Option.bind_eq_some_iff.mp H); (obtain ⟨⟨t107, t108⟩, A60, H⟩ := H); (replace H : ((spec_FormatForm.f k t102).bind fun bt111 => (if (t106 != bt111.2) = true then (laws_FnForms.j0 k l0 true) else ((impl_IsValidForm.f k t102).bind fun t113 => ((spec_IsValidForm.f k t102).bind fun t114 => (if (t113 != t114) = true then (laws_FnForms.j0 k l0 true) else (if t106 = true then (if t108 = true then ((laws_vForms.f k t107 t102).bind fun t115 => (laws_FnForms.j0 k l0 (!t115))) else (laws_FnForms.j0 k l0 true)) else (laws_FnForms.j0 k l0 false))))))) = some r := H); (have A6 := Aside0.mk A60); clear A60; (replace H := Option.bind_eq_some_iff.mp H); (obtain ⟨⟨t111, t112⟩, A70, H⟩ := H); (replace H : (if (t106 != t112) = true then (laws_FnForms.j0 k l0 true) else ((impl_IsValidForm.f k t102).bind fun t113 => ((spec_IsValidForm.f k t102).bind fun t114 => (if (t113 != t114) = true then (laws_FnForms.j0 k l0 true) else (if t106 = true then (if t108 = true then ((laws_vForms.f k t107 t102).bind fun t115 => (laws_FnForms.j0 k l0 (!t115))) else (laws_FnForms.j0 k l0 true)) else (laws_FnForms.j0 k l0 false)))))) = some r := H); (have A7 := Aside0.mk A70); clear A70; (have HC8 := Aside0.mk H); clear H; (go_enter Tryd.func3, Tryd.ntmps3)
  (go_upto_region 7 with (first | ((with_reducible refine gate_callee (f := 5) rfl ?_); refine gL (some 16) Tryd.func5 #[.slice A0 l0.length c0] ?_; (with_reducible refine (laws_vBig.calls _ _ l0 false _ ?side1 ?side2 A2.out).mono ?_); (case side1 => repeat (first | exact HR0.out | (with_reducible first | refine cA ?_ _ | refine cN ?_ _ | refine cD ?_))); (case side2 => exact HC0.out); rintro e w' ⟨rfl, ⟨nd, rfl⟩⟩; refine ⟨_, rfl, ?_⟩) | ((with_reducible refine gate_callee (f := 6) rfl ?_); refine gL (some 18) Tryd.func6 #[.slice A0 l0.length c0] ?_; (with_reducible refine (spec_DrawFormatForm.calls k _ _ l0 t102 _ ?side1 ?side2 A4.out).mono ?_); (case side1 => repeat (first | exact HR0.out | (with_reducible first | refine cA ?_ _ | refine cN ?_ _ | refine cD ?_))); (case side2 => exact HC0.out); rintro e w9 ⟨v103, rfl, ho0, hb⟩; refine ⟨_, rfl, ?_⟩; have n0_ := Aside0.mk (Kd.N_lower (Kd.N_mono (ok' := fun k_ => True) ho0 (fun k_ hk_ => trivial)) (below_size Q31)); have n1_ := Aside0.mk (below_step Q31 hb); clear HB; have HO104 := n0_; have HB := n1_; clear n0_ n1_; (try clear hb); (try clear hb2); (try clear hk); (try clear hi); (try clear ho0); obtain ⟨Ao10, co10, eo10⟩ := Kd.N_slice HO104.out; subst eo10) | ((with_reducible refine gate_callee (f := 7) rfl ?_); refine gL (some 21) Tryd.func7 #[.slice Ao10 t102.length co10] ?_; (with_reducible refine (impl_FormatForm.calls k _ _ t102 t105 t106 _ ?side1 ?side2 ?side3 A5.out).mono ?_); (case side1 => repeat (first | exact Q150 | (with_reducible first | refine cA ?_ _ | refine cN ?_ _ | refine cD ?_))); (case side2 => exact Q151); (case side3 => first | exact Q197 | (repeat (first | exact HG.out.gt | (with_reducible first | apply GT.drewN | apply GT.drew | apply GT.alloc)))); rintro e w11 ⟨rfl, hb⟩; refine ⟨_, rfl, ?_⟩; have n0_ := Aside0.mk (Kd.N_below Q152 hb); have n1_ := Aside0.mk (below_step Q31 hb); clear HO104 HB; have HO104 := n0_; have HB := n1_; clear n0_ n1_; (try clear hb); (try clear hb2); (try clear hk); (try clear hi)) | ((with_reducible refine gate_callee (f := 8) rfl ?_); refine gL (some 26) Tryd.func8 #[.string t105] ?_; (with_reducible refine (impl_ParseForm.calls k t105 t107 t108 _ ?side1 A6.out).mono ?_); (case side1 => first | exact Q187 | (repeat (first | exact HG.out | (with_reducible first | apply GE.drewN | apply GE.drew | apply GE.alloc)))); rintro e w12 ⟨v109, rfl, ho0, hb⟩; refine ⟨_, rfl, ?_⟩; have n0_ := Aside0.mk (Kd.N_elder' Q152 (by first | exact Kd.N_base ho0 | exact Kd.S_base ho0) hb); have n1_ := Aside0.mk (Kd.N_lower (Kd.N_mono (ok' := fun k_ => some k_ ≠ (.slice Ao10 t102.length co10 : Value).ownBlock) (Kd.S_N (Kd.S_bound ho0)) (fun k_ hk_ => (Kd.fresh' (Kd.N_lt Q152) k_ hk_.2.1))) (below_size Q31)); have n2_ := Aside0.mk (below_step Q31 hb); clear HO104 HB; have HO104 := n0_; have HO110 := n1_; have HB := n2_; clear n0_ n1_ n2_; (try clear hb); (try clear hb2); (try clear hk); (try clear hi); (try clear ho0)) | ((with_reducible refine gate_callee (f := 9) rfl ?_); refine gL (some 31) Tryd.func9 #[.slice Ao10 t102.length co10] ?_; (with_reducible refine (spec_FormatForm.calls k _ _ t102 t111 t112 _ ?side1 ?side2 A7.out).mono ?_); (case side1 => repeat (first | exact Q150 | (with_reducible first | refine cA ?_ _ | refine cN ?_ _ | refine cD ?_))); (case side2 => exact Q151); rintro e w13 ⟨rfl, hb⟩; refine ⟨_, rfl, ?_⟩; have n0_ := Aside0.mk (Kd.N_below Q152 hb); have n1_ := Aside0.mk (Kd.N_below Q199 hb); have n2_ := Aside0.mk (below_step Q31 hb); clear HO104 HO110 HB; have HO104 := n0_; have HO110 := n1_; have HB := n2_; clear n0_ n1_ n2_; (try clear hb); (try clear hb2); (try clear hk); (try clear hi)))); ((try simp only [Act.put, aS1, aS2, aS3])); (go_cut [56] (fun v56 wc => ∃ (kq : Nat) (x56_7 : Bool), v56 = .bool x56_7 ∧ Aside0 (laws_FnForms.j0 kq l0 x56_7 = some r) ∧ Aside0 (kq ≤ k) ∧ Aside0 (Below w.heap.size w wc)))
  case first =>
   (have H := HC8.out); clear HC8; (by_cases c14 : (t106 != t112) = true)
   ·rw [if_pos c14] at H
    (have c14b0 : (t106 != t112) = true := c14); ((try (have c14b1 : decide (t106 = t112) = false := Q200))); ((try (have c14b2 : (t106 == t112) = false := Q200))); ((try (have c14b3 : ¬ (t106 = t112) := Q200))); clear c14; ((first | rw [c14b0] | (simp only [i64_w, i32_w]; rw [c14b0]) | skip)); (have H' := Aside0.mk H); clear H; (go_wp2); (go_meet)
    case rel => exact Q201
   ·rw [if_neg c14] at H
    (have c14b0 : (t106 != t112) = false := Q200); ((try (have c14b1 : decide (t106 = t112) = true := Q200))); ((try (have c14b2 : (t106 == t112) = true := Q200))); clear c14; ((first | rw [c14b0] | (simp only [i64_w, i32_w]; rw [c14b0]) | skip)); (replace H := Option.bind_eq_some_iff.mp H); (obtain ⟨t113, A150, H⟩ := H); (have A15 := Aside0.mk A150); clear A150; (replace H := Option.bind_eq_some_iff.mp H); (obtain ⟨t114, A160, H⟩ := H); (have A16 := Aside0.mk A160); clear A160; (by_cases c17 : (t113 != t114) = true)
    ·rw [if_pos c17] at H
     (have c17b0 : (t113 != t114) = true := c17); ((try (have c17b1 : decide (t113 = t114) = false := Q202))); ((try (have c17b2 : (t113 == t114) = false := Q202))); ((try (have c17b3 : ¬ (t113 = t114) := Q202))); clear c17; (have H' := Aside0.mk H); clear H; (go_wp2_with (first | (go_at_call 10; (with_reducible refine (impl_IsValidForm.calls k _ _ t102 t113 _ ?side1 ?side2 A15.out).mono ?_); (case side1 => repeat (first | exact Q150 | (with_reducible first | refine cA ?_ _ | refine cN ?_ _ | refine cD ?_))); (case side2 => exact Q151); rintro e w18 ⟨rfl, hb⟩; have n0_ := Aside0.mk (Kd.N_below Q152 hb); have n1_ := Aside0.mk (Kd.N_below Q199 hb); have n2_ := Aside0.mk (below_step Q31 hb); clear HO104 HO110 HB; have HO104 := n0_; have HO110 := n1_; have HB := n2_; clear n0_ n1_ n2_; (try clear hb); (try clear hb2); (try clear hk); (try clear hi)) | (go_at_call 11; (with_reducible refine (spec_IsValidForm.calls k _ _ t102 t114 _ ?side1 ?side2 A16.out).mono ?_); (case side1 => repeat (first | exact Q150 | (with_reducible first | refine cA ?_ _ | refine cN ?_ _ | refine cD ?_))); (case side2 => exact Q151); rintro e w19 ⟨rfl, hb⟩; have n0_ := Aside0.mk (Kd.N_below Q152 hb); have n1_ := Aside0.mk (Kd.N_below Q199 hb); have n2_ := Aside0.mk (below_step Q31 hb); clear HO104 HO110 HB; have HO104 := n0_; have HO110 := n1_; have HB := n2_; clear n0_ n1_ n2_; (try clear hb); (try clear hb2); (try clear hk); (try clear hi)))); (go_meet)
     case rel => exact Q201
    ·rw [if_neg c17] at H
     (have c17b0 : (t113 != t114) = false := Q202); ((try (have c17b1 : decide (t113 = t114) = true := Q202))); ((try (have c17b2 : (t113 == t114) = true := Q202))); clear c17; (by_cases c20 : t106 = true)
     ·subst c20
      (rw [if_pos rfl] at H); (by_cases c21 : t108 = true)
      ·subst c21
       (rw [if_pos rfl] at H); (replace H := Option.bind_eq_some_iff.mp H); (obtain ⟨t115, A220, H⟩ := H); (have A22 := Aside0.mk A220); clear A220; (have H' := Aside0.mk H); clear H; (go_wp2_with (first | (go_at_call 10; (with_reducible refine (impl_IsValidForm.calls k _ _ t102 t113 _ ?side1 ?side2 A15.out).mono ?_); (case side1 => repeat (first | exact Q150 | (with_reducible first | refine cA ?_ _ | refine cN ?_ _ | refine cD ?_))); (case side2 => exact Q151); rintro e w23 ⟨rfl, hb⟩; have n0_ := Aside0.mk (Kd.N_below Q152 hb); have n1_ := Aside0.mk (Kd.N_below Q199 hb); have n2_ := Aside0.mk (below_step Q31 hb); clear HO104 HO110 HB; have HO104 := n0_; have HO110 := n1_; have HB := n2_; clear n0_ n1_ n2_; (try clear hb); (try clear hb2); (try clear hk); (try clear hi)) | (go_at_call 11; (with_reducible refine (spec_IsValidForm.calls k _ _ t102 t114 _ ?side1 ?side2 A16.out).mono ?_); (case side1 => repeat (first | exact Q150 | (with_reducible first | refine cA ?_ _ | refine cN ?_ _ | refine cD ?_))); (case side2 => exact Q151); rintro e w24 ⟨rfl, hb⟩; have n0_ := Aside0.mk (Kd.N_below Q152 hb); have n1_ := Aside0.mk (Kd.N_below Q199 hb); have n2_ := Aside0.mk (below_step Q31 hb); clear HO104 HO110 HB; have HO104 := n0_; have HO110 := n1_; have HB := n2_; clear n0_ n1_ n2_; (try clear hb); (try clear hb2); (try clear hk); (try clear hi); obtain ⟨Ao25, co25, eo25⟩ := Kd.N_slice HO110.out; subst eo25) | (go_at_call 12; (with_reducible refine (laws_vForms.calls k _ _ t107 _ _ t102 t115 _ ?side1 ?side2 ?side3 ?side4 A22.out).mono ?_); (case side1 => repeat (first | exact (Kd.N_reads' HO110.out).2.2 | (with_reducible first | refine cA ?_ _ | refine cN ?_ _ | refine cD ?_))); (case side2 => exact (Kd.N_reads' HO110.out).2.1); (case side3 => repeat (first | exact Q150 | (with_reducible first | refine cA ?_ _ | refine cN ?_ _ | refine cD ?_))); (case side4 => exact Q151); rintro e w26 ⟨rfl, hb⟩; have n0_ := Aside0.mk (Kd.N_below Q152 hb); have n1_ := Aside0.mk (Kd.N_below Q199 hb); have n2_ := Aside0.mk (below_step Q31 hb); clear HO104 HO110 HB; have HO104 := n0_; have HO110 := n1_; have HB := n2_; clear n0_ n1_ n2_; (try clear hb); (try clear hb2); (try clear hk); (try clear hi)))); (go_meet)
       case rel => exact ⟨_, (!t115), Q5, H', ⟨Q6⟩, ⟨Q31⟩⟩
      ·replace c21 := Bool.eq_false_iff.mpr c21
       subst c21; (rw [if_neg (show ¬ (false = true) by decide)] at H); (have H' := Aside0.mk H); clear H; (go_wp2_with (first | (go_at_call 10; (with_reducible refine (impl_IsValidForm.calls k _ _ t102 t113 _ ?side1 ?side2 A15.out).mono ?_); (case side1 => repeat (first | exact Q150 | (with_reducible first | refine cA ?_ _ | refine cN ?_ _ | refine cD ?_))); (case side2 => exact Q151); rintro e w27 ⟨rfl, hb⟩; have n0_ := Aside0.mk (Kd.N_below Q152 hb); have n1_ := Aside0.mk (Kd.N_below Q199 hb); have n2_ := Aside0.mk (below_step Q31 hb); clear HO104 HO110 HB; have HO104 := n0_; have HO110 := n1_; have HB := n2_; clear n0_ n1_ n2_; (try clear hb); (try clear hb2); (try clear hk); (try clear hi)) | (go_at_call 11; (with_reducible refine (spec_IsValidForm.calls k _ _ t102 t114 _ ?side1 ?side2 A16.out).mono ?_); (case side1 => repeat (first | exact Q150 | (with_reducible first | refine cA ?_ _ | refine cN ?_ _ | refine cD ?_))); (case side2 => exact Q151); rintro e w28 ⟨rfl, hb⟩; have n0_ := Aside0.mk (Kd.N_below Q152 hb); have n1_ := Aside0.mk (Kd.N_below Q199 hb); have n2_ := Aside0.mk (below_step Q31 hb); clear HO104 HO110 HB; have HO104 := n0_; have HO110 := n1_; have HB := n2_; clear n0_ n1_ n2_; (try clear hb); (try clear hb2); (try clear hk); (try clear hi)))); (go_meet)
       case rel => exact Q201
     ·replace c20 := Bool.eq_false_iff.mpr c20
      subst c20; (rw [if_neg (show ¬ (false = true) by decide)] at H); (have H' := Aside0.mk H); clear H; (go_wp2_with (first | (go_at_call 10; (with_reducible refine (impl_IsValidForm.calls k _ _ t102 t113 _ ?side1 ?side2 A15.out).mono ?_); (case side1 => repeat (first | exact Q150 | (with_reducible first | refine cA ?_ _ | refine cN ?_ _ | refine cD ?_))); (case side2 => exact Q151); rintro e w29 ⟨rfl, hb⟩; have n0_ := Aside0.mk (Kd.N_below Q152 hb); have n1_ := Aside0.mk (Kd.N_below Q199 hb); have n2_ := Aside0.mk (below_step Q31 hb); clear HO104 HO110 HB; have HO104 := n0_; have HO110 := n1_; have HB := n2_; clear n0_ n1_ n2_; (try clear hb); (try clear hb2); (try clear hk); (try clear hi)) | (go_at_call 11; (with_reducible refine (spec_IsValidForm.calls k _ _ t102 t114 _ ?side1 ?side2 A16.out).mono ?_); (case side1 => repeat (first | exact Q150 | (with_reducible first | refine cA ?_ _ | refine cN ?_ _ | refine cD ?_))); (case side2 => exact Q151); rintro e w30 ⟨rfl, hb⟩; have n0_ := Aside0.mk (Kd.N_below Q152 hb); have n1_ := Aside0.mk (Kd.N_below Q199 hb); have n2_ := Aside0.mk (below_step Q31 hb); clear HO104 HO110 HB; have HO104 := n0_; have HO110 := n1_; have HB := n2_; clear n0_ n1_ n2_; (try clear hb); (try clear hb2); (try clear hk); (try clear hi)))); (go_meet)
      case rel => exact ⟨_, (false), Q5, H', ⟨Q6⟩, ⟨Q31⟩⟩
  case rest =>
   clear HC8; (try clear c1); (try clear c2); (try clear p2); (try clear c3); (try clear c5); (try clear c6); (try clear c7); (try clear c8); (try clear c9); (try clear c14); (try clear c14b0); (try clear c14b1); (try clear c14b2); (try clear c17); (try clear c17b0); (try clear c17b1); (try clear c17b2); (try clear c20); (try clear c21); (obtain ⟨kq, x56_7, rfl, HA, HJ7, HB⟩ := hcut)
   cases kq with
   | zero => exact absurd HA.out (by simp [laws_FnForms.j0])
   | succ kj7 =>
    (have H := HA.out); clear HA; (simp only [laws_FnForms.j0] at H); (by_cases c31 : x56_7 = true); (· subst c31; (rw [if_pos rfl] at H); (obtain rfl := Option.some.inj H); (exact absurd ht_.out (by decide)))
    ·replace c31 := Bool.eq_false_iff.mpr c31
     subst c31; (rw [if_neg (show ¬ (false = true) by decide)] at H); (replace H := Option.bind_eq_some_iff.mp H); (obtain ⟨t116, A320, H⟩ := H); (have A32 := Aside0.mk A320); clear A320; (replace H := Option.bind_eq_some_iff.mp H); (obtain ⟨⟨t117, t118⟩, A330, H⟩ := H); (replace H : ((impl_FormatForm.f kj7 t117).bind fun bt121 => (if t118 = true then (if bt121.2 = true then (some (bt121.1.toList == t116.toList)) else (some false)) else (some true))) = some r := H); (have A33 := Aside0.mk A330); clear A330; (replace H := Option.bind_eq_some_iff.mp H); (obtain ⟨⟨t121, t122⟩, A340, H⟩ := H); (replace H : (if t118 = true then (if t122 = true then (some (t121.toList == t116.toList)) else (some false)) else (some true)) = some r := H); (have A34 := Aside0.mk A340); clear A340; (by_cases c35 : t118 = true)
     ·subst c35
      (rw [if_pos rfl] at H); (by_cases c36 : t122 = true); (· subst c36; (rw [if_pos rfl] at H); (obtain rfl := Option.some.inj H); (go_wp2_with (first | ((with_reducible refine gate_callee (f := 13) rfl ?_); refine gL (some 58) Tryd.func13 #[.slice A0 l0.length c0] ?_; (with_reducible refine (spec_DrawParseForm.calls kj7 _ _ l0 t116 _ ?side1 ?side2 A32.out).mono ?_); (case side1 => repeat (first | exact (Kd.C_below HR0.out HB.out) | (with_reducible first | refine cA ?_ _ | refine cN ?_ _ | refine cD ?_))); (case side2 => exact HC0.out); rintro e w37 ⟨rfl, hb⟩; refine ⟨_, rfl, ?_⟩; have n0_ := Aside0.mk (below_step Q31 hb); clear HB; have HB := n0_; clear n0_; (try clear hb); (try clear hb2); (try clear hk); (try clear hi)) | ((with_reducible refine gate_callee (f := 8) rfl ?_); refine gL (some 61) Tryd.func8 #[.string t116] ?_; (with_reducible refine (impl_ParseForm.calls kj7 t116 t117 true _ ?side1 A33.out).mono ?_); (case side1 => first | exact Q187 | (repeat (first | exact HG.out | (with_reducible first | apply GE.drewN | apply GE.drew | apply GE.alloc)))); rintro e w38 ⟨v119, rfl, ho0, hb⟩; refine ⟨_, rfl, ?_⟩; have n0_ := Aside0.mk (Kd.N_lower (Kd.N_mono (ok' := fun k_ => True) (Kd.S_N (Kd.S_bound ho0)) (fun k_ hk_ => trivial)) (below_size Q31)); have n1_ := Aside0.mk (below_step Q31 hb); clear HB; have HO120 := n0_; have HB := n1_; clear n0_ n1_; (try clear hb); (try clear hb2); (try clear hk); (try clear hi); (try clear ho0); obtain ⟨Ao39, co39, eo39⟩ := Kd.N_slice HO120.out; subst eo39) | ((with_reducible refine gate_callee (f := 7) rfl ?_); refine gL (some 66) Tryd.func7 #[.slice Ao39 t117.length co39] ?_; (with_reducible refine (impl_FormatForm.calls kj7 _ _ t117 t121 true _ ?side1 ?side2 ?side3 A34.out).mono ?_); (case side1 => repeat (first | exact (Kd.N_reads' HO120.out).2.2 | (with_reducible first | refine cA ?_ _ | refine cN ?_ _ | refine cD ?_))); (case side2 => exact (Kd.N_reads' HO120.out).2.1); (case side3 => first | exact Q197 | (repeat (first | exact HG.out.gt | (with_reducible first | apply GT.drewN | apply GT.drew | apply GT.alloc)))); rintro e w40 ⟨rfl, hb⟩; refine ⟨_, rfl, ?_⟩; have n0_ := Aside0.mk (Kd.N_below Q203 hb); have n1_ := Aside0.mk (below_step Q31 hb); clear HO120 HB; have HO120 := n0_; have HB := n1_; clear n0_ n1_; (try clear hb); (try clear hb2); (try clear hk); (try clear hi)))); go_ret; (exact Q70)); (· (replace c36 := Bool.eq_false_iff.mpr c36); subst c36; (rw [if_neg (show ¬ (false = true) by decide)] at H); (obtain rfl := Option.some.inj H); (exact absurd ht_.out (by decide)))
     ·replace c35 := Bool.eq_false_iff.mpr c35
      subst c35; (rw [if_neg (show ¬ (false = true) by decide)] at H); (obtain rfl := Option.some.inj H); (go_wp2_with (first | ((with_reducible refine gate_callee (f := 13) rfl ?_); refine gL (some 58) Tryd.func13 #[.slice A0 l0.length c0] ?_; (with_reducible refine (spec_DrawParseForm.calls kj7 _ _ l0 t116 _ ?side1 ?side2 A32.out).mono ?_); (case side1 => repeat (first | exact (Kd.C_below HR0.out HB.out) | (with_reducible first | refine cA ?_ _ | refine cN ?_ _ | refine cD ?_))); (case side2 => exact HC0.out); rintro e w45 ⟨rfl, hb⟩; refine ⟨_, rfl, ?_⟩; have n0_ := Aside0.mk (below_step Q31 hb); clear HB; have HB := n0_; clear n0_; (try clear hb); (try clear hb2); (try clear hk); (try clear hi)) | ((with_reducible refine gate_callee (f := 8) rfl ?_); refine gL (some 61) Tryd.func8 #[.string t116] ?_; (with_reducible refine (impl_ParseForm.calls kj7 t116 t117 false _ ?side1 A33.out).mono ?_); (case side1 => first | exact Q187 | (repeat (first | exact HG.out | (with_reducible first | apply GE.drewN | apply GE.drew | apply GE.alloc)))); rintro e w46 ⟨v119, rfl, ho0, hb⟩; refine ⟨_, rfl, ?_⟩; have n0_ := Aside0.mk (Kd.N_lower (Kd.N_mono (ok' := fun k_ => True) (Kd.S_N (Kd.S_bound ho0)) (fun k_ hk_ => trivial)) (below_size Q31)); have n1_ := Aside0.mk (below_step Q31 hb); clear HB; have HO120 := n0_; have HB := n1_; clear n0_ n1_; (try clear hb); (try clear hb2); (try clear hk); (try clear hi); (try clear ho0); obtain ⟨Ao47, co47, eo47⟩ := Kd.N_slice HO120.out; subst eo47) | ((with_reducible refine gate_callee (f := 7) rfl ?_); refine gL (some 66) Tryd.func7 #[.slice Ao47 t117.length co47] ?_; (with_reducible refine (impl_FormatForm.calls kj7 _ _ t117 t121 t122 _ ?side1 ?side2 ?side3 A34.out).mono ?_); (case side1 => repeat (first | exact (Kd.N_reads' HO120.out).2.2 | (with_reducible first | refine cA ?_ _ | refine cN ?_ _ | refine cD ?_))); (case side2 => exact (Kd.N_reads' HO120.out).2.1); (case side3 => first | exact Q197 | (repeat (first | exact HG.out.gt | (with_reducible first | apply GT.drewN | apply GT.drew | apply GT.alloc)))); rintro e w48 ⟨rfl, hb⟩; refine ⟨_, rfl, ?_⟩; have n0_ := Aside0.mk (Kd.N_below Q203 hb); have n1_ := Aside0.mk (below_step Q31 hb); clear HO120 HB; have HO120 := n0_; have HB := n1_; clear n0_ n1_; (try clear hb); (try clear hb2); (try clear hk); (try clear hi)))); go_ret; (exact Q70)
end Go.Proofs.YtiaiohoadefgjaaDoor.X
set_option linter.unusedVariables false
set_option linter.unusedSimpArgs false
namespace Go.Proofs.YtiaiohoadefgjaaDoor.Open
open Go.RowKit Go.Proofs.YtiaiohoadefgjaaDoorW.PrintWords
def Opens (P : Program) (t : TypeId) {α : Type} (d : Kd α) (good : α → Prop) : Prop :=
 ∀ (H : Type) (enc : TypeId × Value → H) (w : World) (fuel : Nat) (cs : List Value) (x : DataW H × List MemPlace),
  DataW.trod enc P w 0 (fun _ => true) true fuel t cs = some x → ∃ a, d.K w a cs ∧ good a
theorem opens_int {P : Program} {t : TypeId} {k : IntKind} (ht : P.underlying t = some (.int k)) : Opens P t (Kd.int k) (fun n => (Lit.int k n).wf = true) := by
 intro H enc w fuel cs x hx
 obtain ⟨n, rfl, _, hw⟩ := DataW.trod_int ht hx
 exact ⟨n, rfl, hw⟩
theorem cells_each {w : World} {a : Addr} {n : Nat} {cs : List Value} (h : w.cells? 0 a n = some cs) : cs.length = n ∧ ∀ i u, cs[i]? = some u → w.cell? (a.add i) = some u := by
 have h1 := World.cells?_some h
 refine ⟨h1.2.1, fun i u hu => ?_⟩
 have hi : i < n := by
  have := (List.getElem?_eq_some_iff.1 hu).1
  omega
 rw [h1.2.2 i hi, hu]
theorem opens_slice {P : Program} {t e : TypeId} {α : Type} {d : Kd α} {g : α → Prop} (ht : P.underlying t = some (.slice e)) (hsz : P.cellsOf e = d.sz) (h : Opens P e d g) :
  Opens P t (Kd.slice e d) (fun xs => xs.length ≤ 9223372036854775807 ∧ ∀ x ∈ xs, g x) := by
 intro H enc w fuel cs x hx
 rcases DataW.trod_slice ht hx with ⟨rfl, _⟩ | ⟨a, len, cap, elems, rest, n, rfl, rfl, _, _, hlc, hcap, hel, hget, _, _⟩
 ·exact ⟨[], ⟨none, 0, rfl, Nat.le_refl _, Kd.C_nil d w⟩, by simp, by simp⟩
 ·simp only [maxLen] at hcap
  have each : ∀ i, i < len → ∃ b : α, ∃ c : List Value, c.length = d.sz ∧ d.K w b c ∧ g b ∧ ∀ j u, c[j]? = some u → w.cell? (a.add (i * d.sz + j)) = some u := by
   intro i hi
   have h1 := hget i hi
   obtain ⟨y, hy⟩ : ∃ y, elems[i]? = some y := ⟨_, List.getElem?_eq_getElem (by omega)⟩
   rw [hy] at h1
   obtain ⟨c, hc, ht'⟩ := Option.bind_eq_some_iff.1 h1
   obtain ⟨b, hK, hg⟩ := h H enc w n c y ht'
   obtain ⟨hl, hcell⟩ := cells_each hc
   refine ⟨b, c, hl.trans hsz, hK, hg, fun j u hu => ?_⟩
   have := hcell j u hu
   rw [Deep.add_add, hsz] at this
   exact this
  have mk : ∀ m, m ≤ len → ∃ xs : List α, xs.length = m ∧ (∀ x ∈ xs, g x) ∧ ∀ j p, xs[j]? = some p → ∃ c, c.length = d.sz ∧ d.K w p c ∧ ∀ i u, c[i]? = some u → w.cell? (a.add (j * d.sz + i)) = some u := by
   intro m
   induction m with
   | zero => exact fun _ => ⟨[], rfl, by simp, by simp⟩
   | succ m ih =>
    intro hm
    obtain ⟨xs, hl, hg, hx⟩ := ih (by omega)
    obtain ⟨b, c, hc1, hc2, hc3, hc4⟩ := each m (by omega)
    refine ⟨xs ++ [b], by simp [hl], ?_, ?_⟩
    ·intro x hx'
     rcases List.mem_append.1 hx' with hx' | hx'
     ·exact hg x hx'
     ·rw [List.mem_singleton.1 hx']; exact hc3
    ·intro j p hj
     by_cases hjm : j < m
     ·rw [List.getElem?_append_left (by omega)] at hj
      exact hx j p hj
     ·have hlt := (List.getElem?_eq_some_iff.1 hj).1
      simp only [List.length_append, List.length_cons, List.length_nil] at hlt
      obtain rfl : j = m := by omega
      rw [List.getElem?_append_right (by omega), hl, Nat.sub_self] at hj
      simp only [List.getElem?_cons_zero, Option.some.injEq] at hj
      subst hj
      exact ⟨c, hc1, hc2, hc4⟩
  obtain ⟨ys, hl, hg, hy⟩ := mk len (Nat.le_refl _)
  subst hl
  exact ⟨ys, ⟨some a, cap, rfl, hlc, rfl, by omega, fun _ => ⟨a, rfl, hy⟩⟩, by omega, hg⟩
theorem arg_slice {P : Program} {W : World} {H : Type} {enc : TypeId × Value → H} {t e : TypeId} {α : Type} {d : Kd α} {g : List α → Prop} {v : Value} {x : DataW H} {p : List MemPlace} (h : Opens P t (Kd.slice e d) g)
  (hs : ∃ a len cap, v = .slice a len cap) (hv : DataW.Trod enc P W 0 (fun _ => true) true t v x p) : ∃ A c xs, v = .slice A xs.length c ∧ xs.length ≤ c ∧ Kd.C d W A xs.length xs ∧ g xs := by
 obtain ⟨a, len, cap, rfl⟩ := hs
 obtain ⟨fuel, hf⟩ := hv
 obtain ⟨xs, ⟨A, c, he, hl, hc⟩, hg⟩ := h H enc W fuel _ _ hf
 simp [Value.cells] at he
 obtain ⟨rfl, rfl, rfl⟩ := he
 exact ⟨_, _, xs, rfl, hl, hc, hg⟩
end Go.Proofs.YtiaiohoadefgjaaDoor.Open
set_option linter.unusedVariables false
namespace Go.Proofs.YtiaiohoadefgjaaDoor.X
open Go.RowKit Go.Proofs.YtiaiohoadefgjaaDoorW.PrintWords Go.Proofs.YtiaiohoadefgjaaDoor.Open
theorem op5 : Opens Tryd.prog 5 (Kd.int .u8) (fun n => (Lit.int .u8 n).wf = true) := opens_int Tryd.underlying5
theorem op22 : Opens Tryd.prog 22 (Kd.slice 5 (Kd.int .u8)) (fun xs => (xs.length ≤ 9223372036854775807 ∧ ∀ y ∈ xs, (Lit.int .u8 y).wf = true)) := opens_slice Tryd.underlying22 (by kernel_rfl) op5
end Go.Proofs.YtiaiohoadefgjaaDoor.X
namespace Go.Proofs.YtiaiohoadefgjaaDoor.X
open Go.RowKit Go.Proofs.YtiaiohoadefgjaaDoorW.PrintWords
def PureFnForms : Prop := ∀ (a0 : List (Int)), (a0.length ≤ 9223372036854775807 ∧ ∀ y ∈ a0, (Lit.int .u8 y).wf = true) → ∃ k, laws_FnForms.f k a0 = some true
end Go.Proofs.YtiaiohoadefgjaaDoor.X
set_option linter.unusedVariables false
set_option linter.unusedSimpArgs false
namespace Go.Proofs.YtiaiohoadefgjaaDoor.X
open Go.RowKit Go.Proofs.YtiaiohoadefgjaaDoorW.PrintWords Go.Proofs.YtiaiohoadefgjaaDoor.E
def Cu (l : List Int) (a : Int) : Prop := l.length ≤ 9223372036854775807 ∧ (∀ y ∈ l, 0 ≤ y ∧ y ≤ 255) ∧ 0 ≤ a ∧ a ≤ 1000000
theorem u64w (x : Int) : 0 ≤ IntKind.u64.wrap x ∧ IntKind.u64.wrap x < 18446744073709551616 := by
 have h : IntKind.u64.wrap x = x % 18446744073709551616 := by simp [IntKind.wrap, IntKind.bits, IntKind.signed]
 rw [h]
 omega
theorem and255 (x : Int) : 0 ≤ wrap64 (Go.bits .and .u64 (IntKind.u64.wrap x / 1099511627776) 255) ∧ wrap64 (Go.bits .and .u64 (IntKind.u64.wrap x / 1099511627776) 255) ≤ 255 := by
 have h := u64w x
 have h2 : 0 ≤ IntKind.u64.wrap x / 1099511627776 ∧ IntKind.u64.wrap x / 1099511627776 < 18446744073709551616 := by omega
 rw [u64_and _ _ h2.1 h2.2 (by omega) (by omega)]
 have h3 : (IntKind.u64.wrap x / 1099511627776).toNat &&& (255 : Int).toNat ≤ 255 := Nat.and_le_right
 generalize (IntKind.u64.wrap x / 1099511627776).toNat &&& (255 : Int).toNat = q at h3
 rw [wrap_id (by omega) (by omega)]
 omega
theorem next_tot {l : List Int} {a : Int} (s : Int) (h : Cu l a) (hb : a ≤ 999999) : ∃ v a' s', spec_l1Cur_next.f l a s = some (v, a', s') ∧ (0 ≤ v ∧ v ≤ 255) ∧ Cu l a' ∧ a' = a + 1 := by
 obtain ⟨h1, h2, h3, h4⟩ := h
 have hw : wrap64 (a + 1) = a + 1 := wrap_id (by omega) (by omega)
 have hc : Cu l (a + 1) := ⟨h1, h2, by omega, by omega⟩
 unfold spec_l1Cur_next.f
 rw [hw]
 by_cases c : a < (l.length : Int)
 ·have hr : 0 ≤ rd l a ∧ rd l a ≤ 255 := by
   have e : rd l a = l[a.toNat]'(by omega) := by show l.getD a.toNat 0 = _; rw [getD_in (by omega)]
   rw [e]
   exact h2 _ (List.getElem_mem _)
  rw [if_pos c, if_pos h3]
  by_cases d : a + 1 ≤ (l.length : Int)
  ·rw [if_pos d]
   exact ⟨_, _, _, rfl, by rw [wrap_id (by omega) (by omega)]; exact hr, hc, rfl⟩
  ·rw [if_neg d]
   exact ⟨_, _, _, rfl, and255 _, hc, rfl⟩
 ·rw [if_neg c]
  by_cases d : a + 1 ≤ (l.length : Int)
  ·rw [if_pos d]
   exact ⟨_, _, _, rfl, by omega, hc, rfl⟩
  ·rw [if_neg d]
   exact ⟨_, _, _, rfl, and255 _, hc, rfl⟩
theorem tmod_in {x n : Int} (hx : 0 ≤ x) (hn : 0 < n) : 0 ≤ Int.tmod x n ∧ Int.tmod x n < n := by
 rw [Int.tmod_eq_emod_of_nonneg hx]
 exact ⟨Int.emod_nonneg _ (by omega), Int.emod_lt_of_pos _ hn⟩
theorem pick_tot {l : List Int} {a : Int} (s n : Int) (h : Cu l a) (hb : a ≤ 999990) : ∃ v a' s', spec_l1Cur_pick.f l a s n = some (v, a', s') ∧ 0 ≤ v ∧ (v < n ∨ v = 0) ∧ Cu l a' ∧ (a ≤ a' ∧ a' ≤ a + 2) := by
 unfold spec_l1Cur_pick.f
 by_cases c : n ≤ 1
 ·rw [if_pos c]
  exact ⟨0, a, s, rfl, by omega, .inr rfl, h, by omega, by omega⟩
 rw [if_neg c]
 obtain ⟨v1, a1, s1, e1, hv1, hc1, ha1⟩ := next_tot s h (by omega)
 rw [e1, Option.bind_some]
 by_cases d : n > 200
 ·obtain ⟨v2, a2, s2, e2, hv2, hc2, ha2⟩ := next_tot s1 hc1 (by omega)
  have hw : wrap64 ((wrap64 (v1 * 256)) + v2) = v1 * 256 + v2 := by rw [wrap_id (x := v1 * 256) (by omega) (by omega), wrap_id (by omega) (by omega)]
  rw [if_pos d]
  dsimp only
  rw [e2, Option.bind_some, if_neg (by omega)]
  have ht := tmod_in (x := wrap64 ((wrap64 (v1 * 256)) + v2)) (n := n) (by rw [hw]; omega) (by omega)
  exact ⟨_, _, _, rfl, ht.1, .inl ht.2, hc2, by dsimp only; omega, by dsimp only; omega⟩
 ·rw [if_neg d, if_neg (by omega)]
  have ht := tmod_in (x := v1) (n := n) (by omega) (by omega)
  exact ⟨_, _, _, rfl, ht.1, .inl ht.2, hc1, by dsimp only; omega, by dsimp only; omega⟩
theorem pick_in {l : List Int} {a : Int} (s n : Int) (hn : 1 ≤ n) (h : Cu l a) (hb : a ≤ 999990) : ∃ v a' s', spec_l1Cur_pick.f l a s n = some (v, a', s') ∧ (0 ≤ v ∧ v < n) ∧ Cu l a' ∧ (a ≤ a' ∧ a' ≤ a + 2) := by
 obtain ⟨v, a', s', e, h0, h1, h2, h3⟩ := pick_tot s n h hb
 refine ⟨v, a', s', e, ⟨h0, ?_⟩, h2, h3⟩
 rcases h1 with h1 | h1
 ·exact h1
 ·omega
end Go.Proofs.YtiaiohoadefgjaaDoor.X
set_option linter.unusedVariables false
set_option linter.unusedSimpArgs false
namespace Go.Proofs.YtiaiohoadefgjaaDoor.X
open Go.RowKit Go.Proofs.YtiaiohoadefgjaaDoorW.PrintWords Go.Proofs.YtiaiohoadefgjaaDoor.E
theorem one_tot {l : List Int} {a : Int} (s n : Int) (h : Cu l a) (hb : a ≤ 999990) : ∃ v a' s', spec_l1Cur_one.f l a s n = some (v, a', s') ∧ Cu l a' ∧ (a ≤ a' ∧ a' ≤ a + 2) := by
 obtain ⟨v, a', s', e, h0, h1, h2, h3⟩ := pick_tot s n h hb
 unfold spec_l1Cur_one.f
 rw [e]
 exact ⟨_, _, _, rfl, h2, h3⟩
theorem of_tot {l : List Int} {a : Int} (s : Int) (ts : List ByteArray) (ht : 1 ≤ ts.length) (h : Cu l a) (hb : a ≤ 999990) : ∃ v a' s', spec_l1Cur_of.f l a s ts = some (v, a', s') ∧ v ∈ ts ∧ Cu l a' ∧ (a ≤ a' ∧ a' ≤ a + 2) := by
 obtain ⟨v, a', s', e, h0, h1, h2⟩ := pick_in s (ts.length : Int) (by omega) h hb
 unfold spec_l1Cur_of.f
 rw [e, Option.bind_some, if_pos h0.1, if_pos h0.2]
 refine ⟨_, _, _, rfl, ?_, h1, h2⟩
 dsimp only
 unfold rdOf
 rw [getD_in (by omega)]
 exact List.getElem_mem _
theorem spoilt_tot {l : List Int} {a : Int} (s : Int) (t w : ByteArray) (hw : 1 ≤ w.size) (ht : t.size ≤ 1000000) (hw2 : w.size ≤ 1000000) (h : Cu l a) (hb : a ≤ 999900) : ∃ v a' s', spec_l1Cur_spoilt.f l a s t w = some (v, a', s') ∧ v.size ≤ t.size + 1 ∧ Cu l a' ∧ (a ≤ a' ∧ a' ≤ a + 6) := by
 unfold spec_l1Cur_spoilt.f
 by_cases c : t.toList = ([] : List UInt8)
 ·rw [if_pos c, if_pos (by omega), if_pos (by omega)]
  exact ⟨_, _, _, rfl, by rw [ByteArray.size_extract]; omega, h, by omega, by omega⟩
 rw [if_neg c]
 have htz : 1 ≤ t.size := by
  rcases Nat.eq_zero_or_pos t.size with e | e
  ·exact absurd (by rw [Lib.toList_data]; exact List.eq_nil_of_length_eq_zero (by rw [Array.length_toList]; exact e)) c
  ·exact e
 obtain ⟨i, a1, s1, e1, hi, hc1, ha1⟩ := pick_in s (t.size : Int) (by omega) h (by omega)
 obtain ⟨j, a2, s2, e2, hj, hc2, ha2⟩ := pick_in s1 (w.size : Int) (by omega) hc1 (by omega)
 obtain ⟨m, a3, s3, e3, hm, hc3, ha3⟩ := pick_in s2 3 (by omega) hc2 (by omega)
 have hx : (w.extract j.toNat w.size).size = w.size - j.toNat := by rw [ByteArray.size_extract]; omega
 have hw1 : wrap64 (i + 1) = i + 1 := wrap_id (by omega) (by omega)
 have z1 : (t.extract 0 i.toNat).size = i.toNat := by rw [ByteArray.size_extract]; omega
 have z2 : ((w.extract j.toNat w.size).extract 0 1).size = 1 := by rw [ByteArray.size_extract]; omega
 have z3 : (t.extract i.toNat t.size).size = t.size - i.toNat := by rw [ByteArray.size_extract]; omega
 have z4 : (t.extract (i + 1).toNat t.size).size = t.size - (i + 1).toNat := by rw [ByteArray.size_extract]; omega
 rw [e1, Option.bind_some]
 dsimp only
 rw [e2, Option.bind_some]
 dsimp only
 rw [if_pos (by omega), if_pos (by omega), if_pos (by omega), if_pos (by omega), e3, Option.bind_some]
 dsimp only
 rw [hw1]
 have z5 : ((t.extract 0 i.toNat) ++ ((w.extract j.toNat w.size).extract 0 1)).size = i.toNat + 1 := by rw [ByteArray.size_append]; omega
 by_cases m0 : m = 0
 ·rw [if_pos m0, if_pos (by omega), if_pos (by omega), if_pos (by omega), if_pos (by omega)]
  exact ⟨_, _, _, rfl, by rw [ByteArray.size_append]; omega, hc3, by omega, by omega⟩
 rw [if_neg m0]
 by_cases m1 : m = 1
 ·rw [if_pos m1]
  repeat rw [if_pos (by omega)]
  exact ⟨_, _, _, rfl, by rw [ByteArray.size_append]; omega, hc3, by omega, by omega⟩
 rw [if_neg m1]
 repeat rw [if_pos (by omega)]
 exact ⟨_, _, _, rfl, by rw [ByteArray.size_append]; omega, hc3, by omega, by omega⟩
end Go.Proofs.YtiaiohoadefgjaaDoor.X
namespace Go.Proofs.YtiaiohoadefgjaaDoor.X
open Go.RowKit Go.Proofs.YtiaiohoadefgjaaDoorW.PrintWords Go.Proofs.YtiaiohoadefgjaaDoorW.PrintLast Go.Proofs.YtiaiohoadefgjaaDoorW.PrintMore
attribute [local go_sem] max2_int min2_int max_two min_two max_three min_three max_four min_four
set_option linter.unusedVariables false
set_option linter.unusedSimpArgs false
attribute [-simp] ByteArray.size_append ByteArray.size_extract
attribute [-go_sem] ByteArray.size_append'
/-! ### impl_isText: function 49 -/
def impl_isText.l0 : Nat → ByteArray → Int → Int → Option (Bool)
 | 0, _, _, _ => none
 | k + 1, x0, x5, x6 => if x6 < x5 then (if 0 ≤ x6 then (if x6 < (x0.size : Int) then (if (bt x0 x6) < 32 then (some false) else (if (bt x0 x6) > 126 then (some false) else (impl_isText.l0 k x0 x5 (wrap64 (x6 + 1))))) else (none)) else (none)) else (some (decide ((x0.size : Int) ≤ 40)))
def impl_isText.f (k : Nat) (a0 : ByteArray) : Option (Bool) := impl_isText.l0 k a0 (a0.size : Int) 0
set_option maxHeartbeats 8000000 in
set_option maxRecDepth 100000 in
theorem impl_isText.calls (k : Nat) (a0 : ByteArray) (r : Bool) (w : World) (h : impl_isText.f k a0 = some r) :
  Calls Tryd.prog 49 #[.string a0] w fun e w' => e = .returned (.bool r) ∧ Drawn0 w w' := by
 (unfold impl_isText.f at h); (have H := h); clear h; (have H' := Aside0.mk H); clear H; (go_enter Tryd.func49, Tryd.ntmps49); (go_wp2); (go_loopg [6] k (fun kq v6 w' => ∃ (x6_1 : Int), v6 = .int .i64 x6_1 ∧ Aside0 (impl_isText.l0 kq a0 (a0.size : Int) x6_1 = some r) ∧ Aside0 (kq ≤ k) ∧ Drawn0 w w'))
 case atStart => exact Q0
 case round =>
  (clear H'); (obtain ⟨x6_1, rfl, HA, HK1, ⟨m1, rfl⟩⟩ := hrel)
  cases gk with
  | zero => exact absurd HA.out (by simp [impl_isText.l0])
  | succ k1 =>
   (have H := HA.out); clear HA; (simp only [impl_isText.l0] at H); (by_cases c2 : x6_1 < (a0.size : Int))
   ·rw [if_pos c2] at H
    (have c2b0 := decide_eq_true c2); clear c2; (by_cases c3 : 0 ≤ x6_1)
    ·rw [if_pos c3] at H
     (have c3b0 := decide_eq_true c3); clear c3; (by_cases c4 : x6_1 < (a0.size : Int))
     ·rw [if_pos c4] at H
      (have c4b0 := decide_eq_true c4); clear c4; (by_cases c6 : (bt a0 x6_1) < 32); (· (rw [if_pos c6] at H); (have c6b0 := decide_eq_true c6); clear c6; (obtain rfl := Option.some.inj H); (have p5 : 0 ≤ (x6_1 : Int) := odt); (have q5 : x6_1 < (a0.size : Int) := odt); (have hx5 := bt_at a0 x6_1); (replace p5 := eq_true p5); (replace q5 := eq_true q5); (go_wp2); go_ret; (exact Q1))
      ·rw [if_neg c6] at H
       (have c6b0 := decide_eq_false c6); clear c6; (by_cases c8 : (bt a0 x6_1) > 126)
       ·rw [if_pos c8] at H
        (have c8b0 : decide (126 < (bt a0 x6_1)) = true := decide_eq_true c8); clear c8; (obtain rfl := Option.some.inj H); (have p5 : 0 ≤ (x6_1 : Int) := odt); (have q5 : x6_1 < (a0.size : Int) := odt); (have hx5 := bt_at a0 x6_1); (replace p5 := eq_true p5); (replace q5 := eq_true q5); (have p7 : 0 ≤ (x6_1 : Int) := odt); (have q7 : x6_1 < (a0.size : Int) := odt); (have hx7 := bt_at a0 x6_1); (replace p7 := eq_true p7); (replace q7 := eq_true q7); (go_wp2); go_ret; (exact Q1)
       ·rw [if_neg c8] at H
        (have c8b0 : decide (126 < (bt a0 x6_1)) = false := decide_eq_false c8); clear c8; (have H' := Aside0.mk H); clear H; (have p5 : 0 ≤ (x6_1 : Int) := odt); (have q5 : x6_1 < (a0.size : Int) := odt); (have hx5 := bt_at a0 x6_1); (replace p5 := eq_true p5); (replace q5 := eq_true q5); (have p7 : 0 ≤ (x6_1 : Int) := odt); (have q7 : x6_1 < (a0.size : Int) := odt); (have hx7 := bt_at a0 x6_1); (replace p7 := eq_true p7); (replace q7 := eq_true q7); (go_wp2); go_roundg k1
        case measure => have := HK1.out; omega
        case rel => exact ⟨(wrap64 (x6_1 + 1)), Q5, H', ⟨Q16⟩, Q20⟩
     ·rw [if_neg c4] at H
      exact Q3
    ·rw [if_neg c3] at H
     exact Q3
   ·rw [if_neg c2] at H
    (have c2b0 := decide_eq_false c2); clear c2; (obtain rfl := Option.some.inj H); (go_wp2); go_ret; (exact Q1)
/-! ### spec_l21Text: function 64 -/
mutual
def spec_l21Text.l0 : Nat → ByteArray → Int → Option (Bool)
 | 0, _, _ => none
 | k + 1, x0, x3 => if x3 < (x0.size : Int) then (spec_l21Text.j1 k x0 x3 (decide (x3 ≤ 40))) else (spec_l21Text.j1 k x0 x3 false)
def spec_l21Text.j1 : Nat → ByteArray → Int → Bool → Option (Bool)
 | 0, _, _, _ => none
 | k + 1, x0, x3, x11 => if x11 = true then (if 0 ≤ x3 then (if x3 < (x0.size : Int) then (if (bt x0 x3) < 32 then (some false) else (if (bt x0 x3) > 126 then (some false) else (spec_l21Text.l0 k x0 (wrap64 (x3 + 1))))) else (none)) else (none)) else (some (decide ((x0.size : Int) ≤ 40)))
end
def spec_l21Text.f (k : Nat) (a0 : ByteArray) : Option (Bool) := spec_l21Text.l0 k a0 0
set_option maxHeartbeats 8000000 in
set_option maxRecDepth 100000 in
theorem spec_l21Text.calls (k : Nat) (a0 : ByteArray) (r : Bool) (w : World) (h : spec_l21Text.f k a0 = some r) :
  Calls Tryd.prog 64 #[.string a0] w fun e w' => e = .returned (.bool r) ∧ Drawn0 w w' := by
 (unfold spec_l21Text.f at h); (have H := h); clear h; (have H' := Aside0.mk H); clear H; (go_enter Tryd.func64, Tryd.ntmps64); (go_wp2); (go_loopg [3] k (fun kq v3 w' => ∃ (x3_1 : Int), v3 = .int .i64 x3_1 ∧ Aside0 (spec_l21Text.l0 kq a0 x3_1 = some r) ∧ Aside0 (kq ≤ k) ∧ Drawn0 w w'))
 case atStart => exact Q0
 case round =>
  (clear H'); (obtain ⟨x3_1, rfl, HA, HK1, ⟨m1, rfl⟩⟩ := hrel)
  cases gk with
  | zero => exact absurd HA.out (by simp [spec_l21Text.l0])
  | succ k1 =>
   (have H := HA.out); clear HA; (simp only [spec_l21Text.l0] at H); (have HC2 := Aside0.mk H); clear H; (go_upto_region 2 with (fail)); (go_cut [11] (fun v11 wc => ∃ (kq : Nat) (x11_1 : Bool), v11 = .bool x11_1 ∧ Aside0 (spec_l21Text.j1 kq a0 x3_1 x11_1 = some r) ∧ Aside0 (kq ≤ k1) ∧ Drawn0 w wc))
   case first =>
    (have H := HC2.out); clear HC2; (by_cases c3 : x3_1 < (a0.size : Int))
    ·rw [if_pos c3] at H
     (have c3b0 := decide_eq_true c3); clear c3; ((first | rw [c3b0] | (simp only [i64_w, i32_w]; rw [c3b0]) | skip)); (have H' := Aside0.mk H); clear H; (go_wp2); (go_meet)
     case rel => exact ⟨_, (decide (x3_1 ≤ 40)), Q5, H', ⟨Q125⟩, Q20⟩
    ·rw [if_neg c3] at H
     (have c3b0 := decide_eq_false c3); clear c3; ((first | rw [c3b0] | (simp only [i64_w, i32_w]; rw [c3b0]) | skip)); (have H' := Aside0.mk H); clear H; (go_wp2); (go_meet)
     case rel => exact ⟨_, (false), Q5, H', ⟨Q125⟩, Q20⟩
   case rest =>
    clear HC2; (try clear p2); (try clear c3); (try clear c3b0); (obtain ⟨kq, x11_1, rfl, HA, HJ1, ⟨mc1, rfl⟩⟩ := hcut)
    cases kq with
    | zero => exact absurd HA.out (by simp [spec_l21Text.j1])
    | succ kj1 =>
     (have H := HA.out); clear HA; (simp only [spec_l21Text.j1] at H); (by_cases c4 : x11_1 = true)
     ·subst c4
      (rw [if_pos rfl] at H); (by_cases c5 : 0 ≤ x3_1)
      ·rw [if_pos c5] at H
       (have c5b0 := decide_eq_true c5); clear c5; (by_cases c6 : x3_1 < (a0.size : Int))
       ·rw [if_pos c6] at H
        (have c6b0 := decide_eq_true c6); clear c6; (by_cases c8 : (bt a0 x3_1) < 32); (· (rw [if_pos c8] at H); (have c8b0 := decide_eq_true c8); clear c8; (obtain rfl := Option.some.inj H); (have p7 : 0 ≤ (x3_1 : Int) := odt); (have q7 : x3_1 < (a0.size : Int) := odt); (have hx7 := bt_at a0 x3_1); (replace p7 := eq_true p7); (replace q7 := eq_true q7); (go_wp2); go_ret; (exact Q1))
        ·rw [if_neg c8] at H
         (have c8b0 := decide_eq_false c8); clear c8; (by_cases c10 : (bt a0 x3_1) > 126)
         ·rw [if_pos c10] at H
          (have c10b0 : decide (126 < (bt a0 x3_1)) = true := decide_eq_true c10); clear c10; (obtain rfl := Option.some.inj H); (have p7 : 0 ≤ (x3_1 : Int) := odt); (have q7 : x3_1 < (a0.size : Int) := odt); (have hx7 := bt_at a0 x3_1); (replace p7 := eq_true p7); (replace q7 := eq_true q7); (have p9 : 0 ≤ (x3_1 : Int) := odt); (have q9 : x3_1 < (a0.size : Int) := odt); (have hx9 := bt_at a0 x3_1); (replace p9 := eq_true p9); (replace q9 := eq_true q9); (go_wp2); go_ret; (exact Q1)
         ·rw [if_neg c10] at H
          (have c10b0 : decide (126 < (bt a0 x3_1)) = false := decide_eq_false c10); clear c10; (have H' := Aside0.mk H); clear H; (have p7 : 0 ≤ (x3_1 : Int) := odt); (have q7 : x3_1 < (a0.size : Int) := odt); (have hx7 := bt_at a0 x3_1); (replace p7 := eq_true p7); (replace q7 := eq_true q7); (have p9 : 0 ≤ (x3_1 : Int) := odt); (have q9 : x3_1 < (a0.size : Int) := odt); (have hx9 := bt_at a0 x3_1); (replace p9 := eq_true p9); (replace q9 := eq_true q9); (go_wp2); go_roundg kj1
          case measure => have := HK1.out; have := HJ1.out; omega
          case rel => exact ⟨(wrap64 (x3_1 + 1)), Q5, H', ⟨by have := HK1.out; have := HJ1.out; omega⟩, Q20⟩
       ·rw [if_neg c6] at H
        exact Q3
      ·rw [if_neg c5] at H
       exact Q3
     ·replace c4 := Bool.eq_false_iff.mpr c4
      subst c4; (rw [if_neg (show ¬ (false = true) by decide)] at H); (obtain rfl := Option.some.inj H); (go_wp2); go_ret; (exact Q1)
end Go.Proofs.YtiaiohoadefgjaaDoor.X
set_option linter.unusedVariables false
set_option linter.unusedSimpArgs false
namespace Go.Proofs.YtiaiohoadefgjaaDoor.X
open Go.RowKit Go.Proofs.YtiaiohoadefgjaaDoorW.PrintWords Go.Proofs.YtiaiohoadefgjaaDoor.E
theorem l1In_eq (a l h : Int) : spec_l1In.f a l h = some (decide (l ≤ a ∧ a ≤ h)) := by
 unfold spec_l1In.f
 by_cases h1 : a ≥ l
 ·rw [if_pos h1]; congr 1; simp [h1]
 ·rw [if_neg h1]; congr 1; symm; simp; intro h2; omega
theorem within_eq (a l h : Int) : impl_within.f a l h = some (decide (l ≤ a ∧ a ≤ h)) := by
 unfold impl_within.f
 by_cases h1 : a ≥ l
 ·rw [if_pos h1]; congr 1; simp [h1]
 ·rw [if_neg h1]; congr 1; symm; simp; intro h2; omega
def nameAt (s : ByteArray) (i : Nat) : Bool := decide (97 ≤ bt s i ∧ bt s i ≤ 122) || (decide (0 < i) && decide (48 ≤ bt s i ∧ bt s i ≤ 57))
def nameB (s : ByteArray) : Bool := decide (1 ≤ (s.size : Int) ∧ (s.size : Int) ≤ 8) && (List.range s.size).all (nameAt s)
theorem isName_ev (s : ByteArray) (hs : s.size ≤ 9223372036854775807) : Ev (fun k => impl_isName.f k s) (nameB s) := by
 have h := ev_all0 (L := fun k i => impl_isName.l0 k s (s.size : Int) i) s.size (nameAt s) false (decide (1 ≤ (s.size : Int) ∧ (s.size : Int) ≤ 8)) (fun _ => Ev.step (fun k => rfl) (ev_neg (by omega) ?_)) ?h1 ?h2
 case refine_1 => simp only [within_eq]; exact ev_now rfl
 case h1 =>
  intro i hi _ hc y hy
  simp only [nameAt, Bool.or_eq_true, Bool.and_eq_true, decide_eq_true_eq] at hc
  refine Ev.step (fun k => rfl) (ev_pos (by omega) (ev_pos (by omega) (ev_pos (by omega) ?_)))
  rw [wrap_succ hi hs]
  repeat' (first | exact hy | (exfalso; omega) | (refine ev_ite (fun _ => ?_) (fun _ => ?_)))
 case h2 =>
  intro i hi _ hc
  simp only [nameAt, Bool.or_eq_false_iff, Bool.and_eq_false_iff, decide_eq_false_iff_not] at hc
  refine Ev.step (fun k => rfl) (ev_pos (by omega) (ev_pos (by omega) (ev_pos (by omega) ?_)))
  rw [wrap_succ hi hs]
  repeat' (first | exact ev_now rfl | (exfalso; omega) | (refine ev_ite (fun _ => ?_) (fun _ => ?_)))
 refine ev_cast h ?_
 unfold nameB
 cases (List.range s.size).all (nameAt s) <;> simp
theorem l7Name_ev (s : ByteArray) (hs : s.size ≤ 9223372036854775807) : Ev (fun k => spec_l7Name.f k s) (nameB s) := by
 unfold spec_l7Name.f
 simp only [l1In_eq]
 have stop : ∀ b, b = false → Ev (fun k => spec_l7Name.j0 k s true) b := fun b hb => hb ▸ Ev.step (fun k => rfl) (ev_now rfl)
 refine ev_ite (fun h1 => ?_) (fun h1 => stop _ ?_)
 case refine_2 => unfold nameB; simp only [Bool.and_eq_false_iff]; left; simpa using h1
 have h1' : 1 ≤ (s.size : Int) ∧ (s.size : Int) ≤ 8 := by simpa using h1
 have h0 : ∀ b : Bool, (97 ≤ bt s 0 ∧ bt s 0 ≤ 122 → b = (List.range s.size).all (nameAt s)) → (¬ (97 ≤ bt s 0 ∧ bt s 0 ≤ 122) → b = false) → b = nameB s := by
  intro b hy hn
  unfold nameB
  rw [decide_eq_true h1', Bool.true_and]
  by_cases c : 97 ≤ bt s 0 ∧ bt s 0 ≤ 122
  ·exact hy c
  ·rw [hn c]
   symm
   rw [Bool.eq_false_iff]
   intro hall
   have := all_range.1 hall 0 (by omega)
   simp only [nameAt, Nat.lt_irrefl, decide_false, Bool.false_and, Bool.or_false, decide_eq_true_eq] at this
   exact c this
 refine ev_pos (by omega) ?_
 have loop : 97 ≤ bt s 0 ∧ bt s 0 ≤ 122 → Ev (fun k => spec_l7Name.l0 k s 0) ((List.range s.size).all (nameAt s)) := by
  intro hf
  have h := ev_all0 (L := fun k i => spec_l7Name.l0 k s i) s.size (nameAt s) false true (fun _ => Ev.step (fun k => rfl) (ev_neg (by omega) (ev_now rfl))) ?h1 ?h2
  case h1 =>
   intro i hi _ hc y hy
   simp only [nameAt, Bool.or_eq_true, Bool.and_eq_true, decide_eq_true_eq] at hc
   refine Ev.step (fun k => rfl) (ev_pos (by omega) (ev_pos (by omega) ?_))
   rw [wrap_succ hi hs]
   repeat' (first | exact hy | (exfalso; omega) | (refine ev_ite (fun _ => ?_) (fun _ => ?_)))
  case h2 =>
   intro i hi _ hc
   simp only [nameAt, Bool.or_eq_false_iff, Bool.and_eq_false_iff, decide_eq_false_iff_not] at hc
   have hi0 : 0 < i := by
    rcases Nat.eq_zero_or_pos i with e | e
    ·subst e; exact absurd hf hc.1
    ·exact e
   refine Ev.step (fun k => rfl) (ev_pos (by omega) (ev_pos (by omega) ?_))
   rw [wrap_succ hi hs]
   repeat' (first | exact ev_now rfl | (exfalso; omega) | (refine ev_ite (fun _ => ?_) (fun _ => ?_)))
  refine ev_cast h ?_
  cases (List.range s.size).all (nameAt s) <;> rfl
 refine ev_ite (fun c => stop _ (h0 false (fun h => by exfalso; omega) (fun _ => rfl)).symm) (fun c => ?_)
 by_cases c2 : bt s 0 > 122
 ·rw [decide_eq_true c2]
  exact stop _ (h0 false (fun h => by exfalso; omega) (fun _ => rfl)).symm
 ·rw [decide_eq_false c2]
  exact Ev.step (fun k => rfl) (ev_cast (loop ⟨by omega, by omega⟩) (h0 _ (fun _ => rfl) (fun h => absurd (And.intro (show 97 ≤ bt s 0 by omega) (show bt s 0 ≤ 122 by omega)) h)))
end Go.Proofs.YtiaiohoadefgjaaDoor.X
set_option linter.unusedVariables false
set_option linter.unusedSimpArgs false
namespace Go.Proofs.YtiaiohoadefgjaaDoor.X
open Go.RowKit Go.Proofs.YtiaiohoadefgjaaDoorW.PrintWords Go.Proofs.YtiaiohoadefgjaaDoor.E
abbrev Field := S54
abbrev zF : Field := z54
def fine (f : Field) : Prop := f.f0.size ≤ 9223372036854775807 ∧ f.f4.length ≤ 9223372036854775807 ∧ (∀ s ∈ f.f4, s.size ≤ 9223372036854775807) ∧ f.f6.size ≤ 9223372036854775807
abbrev fidx (form : List Field) (n : ByteArray) : Int := idxG (fun x : Field => x.f0.toList == n.toList) 0 form
theorem l23Find_ev (form : List Field) (n : ByteArray) (hl : form.length ≤ 9223372036854775807) : Ev (fun k => spec_l23Find.f k form n) (fidx form n) := by
 have h := ev_walk (L := fun k i => spec_l23Find.l0 k form n i) (G := fun i r => idxG (fun x : Field => x.f0.toList == n.toList) i r) form (Ev.step (fun k => rfl) (ev_neg (by omega) (ev_now rfl))) ?step
 case step =>
  intro i x r hi hd hx hk
  refine Ev.step (fun k => rfl) (ev_pos (by omega) (ev_pos (by omega) ?_))
  simp only [rd_T54, Int.toNat_natCast, hx]
  by_cases c : x.f0.toList = n.toList
  ·exact ev_pos c (ev_now (by simp [idxG, c]))
  ·refine ev_neg c ?_
   rw [wrap_succ hi hl]
   exact ev_cast hk (by simp [idxG, c])
 exact h
theorem fieldOf_eq (form : List Field) (n : ByteArray) : impl_fieldOf.f form n = some (fidx form n) := rfl
def choiceAt (l : List ByteArray) (i : Nat) : Bool := nameB (l.getD i ByteArray.empty) && (List.range i).all (fun k => !((l.getD k ByteArray.empty).toList == (l.getD i ByteArray.empty).toList))
def choices (l : List ByteArray) : Bool := (List.range l.length).all (choiceAt l)
theorem l23Names_ev (l : List ByteArray) (hl : l.length ≤ 9223372036854775807) (hs : ∀ s ∈ l, s.size ≤ 9223372036854775807) : Ev (fun k => spec_l23Names.f k l) (choices l) := by
 have inner : ∀ i, i < l.length → ∀ y, ((List.range i).all (fun k => !((l.getD k ByteArray.empty).toList == (l.getD i ByteArray.empty).toList)) = true → Ev (fun k => spec_l23Names.l0 k l ((i + 1 : Nat) : Int)) y) →
   Ev (fun k => spec_l23Names.l1 k l i 0) (if (List.range i).all (fun k => !((l.getD k ByteArray.empty).toList == (l.getD i ByteArray.empty).toList)) = true then y else false) := by
  intro i hi y hy
  refine ev_all0 (L := fun k j => spec_l23Names.l1 k l i j) i _ false y ?_ ?_ ?_
  ·intro hC
   refine Ev.step (fun k => rfl) (ev_neg (by omega) ?_)
   rw [wrap_succ hi hl]
   exact hy (all_range.2 hC)
  ·intro m hm _ hc z hz
   refine Ev.step (fun k => rfl) (ev_pos (by omega) (ev_pos (by omega) (ev_pos (by omega) (ev_pos (by omega) (ev_pos (by omega) (ev_neg ?_ ?_))))))
   ·simp only [rdOf, Int.toNat_natCast]
    simpa using hc
   ·rw [wrap_succ hm (by omega)]; exact hz
  ·intro m hm _ hc
   refine Ev.step (fun k => rfl) (ev_pos (by omega) (ev_pos (by omega) (ev_pos (by omega) (ev_pos (by omega) (ev_pos (by omega) (ev_pos ?_ (ev_now rfl)))))))
   simp only [rdOf, Int.toNat_natCast]
   simpa using hc
 have h := ev_all0 (L := fun k i => spec_l23Names.l0 k l i) l.length (choiceAt l) false true (fun _ => Ev.step (fun k => rfl) (ev_neg (by omega) (ev_now rfl))) ?h1 ?h2
 case h1 =>
  intro i hi _ hc y hy
  simp only [choiceAt, Bool.and_eq_true] at hc
  refine Ev.step (fun k => rfl) (ev_pos (by omega) (ev_pos (by omega) ?_))
  simp only [rdOf, Int.toNat_natCast]
  refine Ev.bind (l7Name_ev _ (by rw [getD_in hi]; exact hs _ (List.getElem_mem hi))) (ev_pos hc.1 ?_)
  have := inner i hi y (fun _ => hy)
  rw [if_pos hc.2] at this
  exact this
 case h2 =>
  intro i hi _ hc
  refine Ev.step (fun k => rfl) (ev_pos (by omega) (ev_pos (by omega) ?_))
  simp only [rdOf, Int.toNat_natCast]
  refine Ev.bind (l7Name_ev _ (by rw [getD_in hi]; exact hs _ (List.getElem_mem hi))) (ev_ite (fun h1 => ?_) (fun _ => ev_now rfl))
  have hn : ¬ (List.range i).all (fun k => !((l.getD k ByteArray.empty).toList == (l.getD i ByteArray.empty).toList)) = true := by
   intro h2
   simp only [choiceAt, h1, h2] at hc
   cases hc
  have := inner i hi false (fun h => absurd h hn)
  rw [if_neg hn] at this
  exact this
 refine ev_cast h ?_
 unfold choices
 cases (List.range l.length).all (choiceAt l) <;> rfl
theorem slicesIndexStr_ev (l : List ByteArray) (n : ByteArray) (hl : l.length ≤ 9223372036854775807) : Ev (fun k => slices_Index_string_string.f k l n) (idxG (fun x : ByteArray => x.toList == n.toList) 0 l) := by
 have h := ev_walk (L := fun k i => slices_Index_string_string.l0 k l n (l.length : Int) i) (G := fun i r => idxG (fun x : ByteArray => x.toList == n.toList) i r) l (Ev.step (fun k => rfl) (ev_neg (by omega) (ev_now rfl))) ?step
 case step =>
  intro i x r hi hd hx hk
  refine Ev.step (fun k => rfl) (ev_pos (by omega) (ev_pos (by omega) (ev_pos (by omega) ?_)))
  simp only [rdOf, Int.toNat_natCast, hx]
  by_cases c : n.toList = x.toList
  ·exact ev_pos c (ev_now (by simp [idxG, c]))
  ·refine ev_neg c ?_
   rw [wrap_succ hi hl]
   have c' : ¬ x.toList = n.toList := fun h => c h.symm
   exact ev_cast hk (by simp [idxG, c'])
 exact h
theorem slicesContainsStr_ev (l : List ByteArray) (n : ByteArray) (hl : l.length ≤ 9223372036854775807) : Ev (fun k => slices_Contains_string_string.f k l n) (l.any (fun x => x.toList == n.toList)) := by
 unfold slices_Contains_string_string.f
 refine Ev.bind (slicesIndexStr_ev l n hl) (ev_now ?_)
 exact idxG_nonneg (fun x : ByteArray => x.toList == n.toList) l 0
theorem any_take (l : List ByteArray) (i : Nat) (hi : i < l.length) (n : ByteArray) : (l.take i).any (fun x => x.toList == n.toList) = !(List.range i).all (fun k => !((l.getD k ByteArray.empty).toList == n.toList)) := by
 rw [Bool.eq_iff_iff, Bool.not_eq_true', List.any_eq_true, Bool.eq_false_iff, ne_eq, all_range]
 constructor
 ·rintro ⟨x, hx, hp⟩ h
  obtain ⟨q, hq, rfl⟩ := List.getElem_of_mem hx
  have hq' : q < i := by simp at hq; omega
  have := h q hq'
  rw [getD_in (by omega)] at this
  rw [List.getElem_take] at hp
  rw [hp] at this; cases this
 ·intro h
  refine Classical.byContradiction (fun hc => h (fun k hk => ?_))
  rw [getD_in (by omega)]
  cases hq : (l[k].toList == n.toList) with
  | false => rfl
  | true =>
   refine absurd ⟨l[k], ?_, hq⟩ hc
   rw [List.mem_take_iff_getElem]
   exact ⟨k, by omega, rfl⟩
def kindOk (f : Field) : Bool :=
 if f.f1 = 1 then decide (-999999 ≤ f.f2 ∧ f.f2 ≤ f.f3 ∧ f.f3 ≤ 999999) && (f.f4.length == 0)
 else if f.f1 = 2 then decide (0 ≤ f.f2 ∧ f.f2 ≤ f.f3 ∧ f.f3 ≤ 40) && (f.f4.length == 0)
 else if f.f1 = 3 then decide (f.f2 = 0 ∧ f.f3 = 0) && decide (1 ≤ (f.f4.length : Int) ∧ (f.f4.length : Int) ≤ 6) && choices f.f4
 else if f.f1 = 4 then decide (f.f2 = 0 ∧ f.f3 = 0) && (f.f4.length == 0) else false
def ifOk (form : List Field) (i : Nat) (n : ByteArray) : Bool := (n.toList == []) || (decide (0 ≤ fidx form n ∧ fidx form n < (i : Int)) && ((form.getD (fidx form n).toNat zF).f1 == 4))
def fieldB (form : List Field) (i : Nat) : Bool :=
 nameB (form.getD i zF).f0 && decide (fidx form (form.getD i zF).f0 = (i : Int)) && decide (1 ≤ (form.getD i zF).f1 ∧ (form.getD i zF).f1 ≤ 4) && ifOk form i (form.getD i zF).f6 && kindOk (form.getD i zF)
theorem specField_ev (form : List Field) (i : Nat) (hi : i < form.length) (hl : form.length ≤ 9223372036854775807) (hf : fine (form.getD i zF)) : Ev (fun k => spec_l23Field.f k form i) (fieldB form i) := by
 unfold spec_l23Field.f
 refine ev_pos (by omega) (ev_pos (by omega) ?_)
 simp only [rd_T54, Int.toNat_natCast, l1In_eq]
 generalize hF : form.getD i z54 = F at *
 have hFB : fieldB form i = (nameB F.f0 && decide (fidx form F.f0 = (i : Int)) && decide (1 ≤ F.f1 ∧ F.f1 ≤ 4) && ifOk form i F.f6 && kindOk F) := by unfold fieldB; rw [show form.getD i zF = F from hF]
 rw [hFB]
 obtain ⟨g0, g4, g4s, g6⟩ := id hf
 have stop : ∀ b, b = false → Ev (fun k => spec_l23Field.j0 k form i true F.f0 F.f1 F.f2 F.f3 F.f4 F.f5 F.f6) b := fun b hb => hb ▸ Ev.step (fun k => rfl) (ev_now rfl)
 refine Ev.bind (l7Name_ev F.f0 g0) (ev_ite (fun h1 => ?_) (fun h1 => stop _ (by simp [h1])))
 refine Ev.bind (l23Find_ev form F.f0 hl) (ev_ite (fun h2 => ?_) (fun h2 => stop _ (by simp [h2])))
 by_cases h3 : 1 ≤ F.f1 ∧ F.f1 ≤ 4
 case neg =>
  show Ev (fun k => spec_l23Field.j0 k form i (!decide (1 ≤ F.f1 ∧ F.f1 ≤ 4)) F.f0 F.f1 F.f2 F.f3 F.f4 F.f5 F.f6) _
  rw [decide_eq_false h3]
  exact stop _ (by simp)
 show Ev (fun k => spec_l23Field.j0 k form i (!decide (1 ≤ F.f1 ∧ F.f1 ≤ 4)) F.f0 F.f1 F.f2 F.f3 F.f4 F.f5 F.f6) _
 rw [decide_eq_true h3]
 have tail : Ev (fun k => spec_l23Field.j1 k F.f0 F.f1 F.f2 F.f3 F.f4 F.f5 F.f6) (kindOk F) := by
  refine Ev.step (fun k => rfl) ?_
  unfold kindOk
  simp only [spec_l23Field.j1, l1In_eq]
  have e0 : ((F.f4.length : Int) == 0) = (F.f4.length == 0) := by
   rw [Bool.eq_iff_iff, beq_iff_eq, beq_iff_eq]; omega
  refine ev_ite (fun k1 => ?_) (fun k1 => ev_ite (fun k2 => ?_) (fun k2 => ev_ite (fun k3 => ?_) (fun k3 => ?_)))
  ·rw [if_pos k1]
   refine ev_ite (fun h => ev_ite (fun h' => ev_now ?_) (fun h' => ev_now ?_)) (fun h => ev_now ?_)
   ·rw [decide_eq_true_eq] at h; rw [decide_eq_true (show -999999 ≤ F.f2 ∧ F.f2 ≤ F.f3 ∧ F.f3 ≤ 999999 by omega), Bool.true_and, e0]
   ·rw [decide_eq_false (show ¬ (-999999 ≤ F.f2 ∧ F.f2 ≤ F.f3 ∧ F.f3 ≤ 999999) by omega), Bool.false_and]
   ·rw [decide_eq_true_eq] at h; rw [decide_eq_false (show ¬ (-999999 ≤ F.f2 ∧ F.f2 ≤ F.f3 ∧ F.f3 ≤ 999999) by omega), Bool.false_and]
  ·rw [if_neg k1, if_pos k2]
   refine ev_ite (fun h => ev_ite (fun h' => ev_now ?_) (fun h' => ev_now ?_)) (fun h => ev_now ?_)
   ·rw [decide_eq_true_eq] at h; rw [decide_eq_true (show 0 ≤ F.f2 ∧ F.f2 ≤ F.f3 ∧ F.f3 ≤ 40 by omega), Bool.true_and, e0]
   ·rw [decide_eq_false (show ¬ (0 ≤ F.f2 ∧ F.f2 ≤ F.f3 ∧ F.f3 ≤ 40) by omega), Bool.false_and]
   ·rw [decide_eq_true_eq] at h; rw [decide_eq_false (show ¬ (0 ≤ F.f2 ∧ F.f2 ≤ F.f3 ∧ F.f3 ≤ 40) by omega), Bool.false_and]
  ·rw [if_neg k1, if_neg k2, if_pos k3]
   refine ev_ite (fun h => ev_ite (fun h' => ev_ite (fun h'' => ?_) (fun h'' => ev_now ?_)) (fun h' => ev_now ?_)) (fun h => ev_now ?_)
   ·rw [decide_eq_true (show F.f2 = 0 ∧ F.f3 = 0 from ⟨h, h'⟩), h'', Bool.true_and, Bool.true_and]
    exact Ev.bind (l23Names_ev F.f4 g4 g4s) (ev_now rfl)
   ·rw [decide_eq_true (show F.f2 = 0 ∧ F.f3 = 0 from ⟨h, h'⟩), Bool.eq_false_iff.2 h'']; rfl
   ·rw [decide_eq_false (show ¬ (F.f2 = 0 ∧ F.f3 = 0) by omega)]; rfl
   ·rw [decide_eq_false (show ¬ (F.f2 = 0 ∧ F.f3 = 0) by omega)]; rfl
  ·rw [if_neg k1, if_neg k2, if_neg k3, if_pos (show F.f1 = 4 by omega)]
   refine ev_ite (fun h => ev_ite (fun h' => ev_now ?_) (fun h' => ev_now ?_)) (fun h => ev_now ?_)
   ·rw [decide_eq_true (show F.f2 = 0 ∧ F.f3 = 0 from ⟨h, h'⟩), Bool.true_and, e0]
   ·rw [decide_eq_false (show ¬ (F.f2 = 0 ∧ F.f3 = 0) by omega)]; rfl
   ·rw [decide_eq_false (show ¬ (F.f2 = 0 ∧ F.f3 = 0) by omega)]; rfl
 rw [h1, decide_eq_true h2, Bool.true_and, Bool.true_and, Bool.true_and]
 refine Ev.step (fun k => rfl) ?_
 show Ev (fun k => if F.f6.toList = ([] : List UInt8) then _ else _) _
 unfold ifOk
 refine ev_ite (fun h4 => ev_cast tail (by simp [h4])) (fun h4 => ?_)
 have h4' : (F.f6.toList == []) = false := by simpa using h4
 rw [h4', Bool.false_or]
 refine Ev.bind (l23Find_ev form F.f6 hl) (ev_ite (fun h5 => ev_now ?_) (fun h5 => ev_ite (fun h6 => ev_now ?_) (fun h6 => ?_)))
 ·rw [decide_eq_false (by omega), Bool.false_and, Bool.false_and]
 ·rw [decide_eq_false (by omega), Bool.false_and, Bool.false_and]
 ·refine ev_pos (by omega) (ev_pos (by omega) ?_)
  simp only [rd_T54]
  rw [decide_eq_true (show 0 ≤ fidx form F.f6 ∧ fidx form F.f6 < (i : Int) by omega), Bool.true_and]
  refine ev_ite (fun h7 => ev_cast tail ?_) (fun h7 => ev_now ?_)
  ·show kindOk F = (((form.getD (fidx form F.f6).toNat z54).f1 == 4) && kindOk F)
   rw [h7]; rfl
  ·show false = (((form.getD (fidx form F.f6).toNat z54).f1 == 4) && kindOk F)
   rw [show ((form.getD (fidx form F.f6).toNat z54).f1 == 4) = false from by simpa using h7]; rfl
def formB (form : List Field) : Bool := decide ((form.length : Int) ≤ 10) && (List.range form.length).all (fieldB form)
theorem specForm_ev (form : List Field) (hl : form.length ≤ 9223372036854775807) (hf : ∀ f ∈ form, fine f) : Ev (fun k => spec_l23Good.f k form) (formB form) := by
 unfold spec_l23Good.f
 refine ev_ite (fun h => ev_now ?_) (fun h => ?_)
 ·unfold formB; rw [decide_eq_false (by omega), Bool.false_and]
 unfold formB
 rw [decide_eq_true (by omega), Bool.true_and]
 have h := ev_all0 (L := fun k i => spec_l23Good.l0 k form i) form.length (fieldB form) false true (fun _ => Ev.step (fun k => rfl) (ev_neg (by omega) (ev_now rfl))) ?h1 ?h2
 case h1 =>
  intro i hi _ hc y hy
  refine Ev.step (fun k => rfl) (ev_pos (by omega) (Ev.bind (specField_ev form i hi hl (hf _ (by rw [getD_in hi]; exact List.getElem_mem hi))) (ev_pos hc ?_)))
  rw [wrap_succ hi hl]; exact hy
 case h2 =>
  intro i hi _ hc
  exact Ev.step (fun k => rfl) (ev_pos (by omega) (Ev.bind (specField_ev form i hi hl (hf _ (by rw [getD_in hi]; exact List.getElem_mem hi))) (ev_neg (by rw [hc]; simp) (ev_now rfl))))
 refine ev_cast h ?_
 cases (List.range form.length).all (fieldB form) <;> rfl
end Go.Proofs.YtiaiohoadefgjaaDoor.X
set_option linter.unusedVariables false
set_option linter.unusedSimpArgs false
namespace Go.Proofs.YtiaiohoadefgjaaDoor.X
open Go.RowKit Go.Proofs.YtiaiohoadefgjaaDoorW.PrintWords Go.Proofs.YtiaiohoadefgjaaDoor.E
theorem among_tot {l : List Int} {a : Int} (s : Int) (ts : List Int) (ht : 1 ≤ ts.length) (h : Cu l a) (hb : a ≤ 999990) : ∃ v a' s', spec_l1Cur_among.f l a s ts = some (v, a', s') ∧ v ∈ ts ∧ Cu l a' ∧ (a ≤ a' ∧ a' ≤ a + 2) := by
 obtain ⟨v, a', s', e, h0, h1, h2⟩ := pick_in s (ts.length : Int) (by omega) h hb
 unfold spec_l1Cur_among.f
 rw [e, Option.bind_some, if_pos h0.1, if_pos h0.2]
 refine ⟨_, _, _, rfl, ?_, h1, h2⟩
 dsimp only
 obtain ⟨i, rfl⟩ : ∃ i : Nat, v = (i : Int) := ⟨v.toNat, by omega⟩
 rw [rd_nat, getD_in (by omega)]
 exact List.getElem_mem _
def GoodF (n : Nat) (F : Field) : Prop := F.f0.size ≤ 10 ∧ F.f4.length ≤ n ∧ (∀ s ∈ F.f4, s.size ≤ 10) ∧ F.f6.size ≤ 10 ∧ (-2000000 ≤ F.f2 ∧ F.f2 ≤ 2000000) ∧ (-2000000 ≤ F.f3 ∧ F.f3 ≤ 2000000)
def nm6 : List ByteArray := [(⟨#[107, 105, 110, 100]⟩ : ByteArray), (⟨#[100, 101, 112, 116, 104]⟩ : ByteArray), (⟨#[110, 111, 116, 101]⟩ : ByteArray), (⟨#[119, 101, 116]⟩ : ByteArray), (⟨#[99, 111, 108, 111, 114]⟩ : ByteArray), (⟨#[102, 105, 110, 100, 115]⟩ : ByteArray)]
def nm4 : List ByteArray := [(⟨#[114, 101, 100]⟩ : ByteArray), (⟨#[103, 114, 101, 121]⟩ : ByteArray), (⟨#[98, 114, 111, 119, 110]⟩ : ByteArray), (⟨#[105, 102]⟩ : ByteArray)]
theorem nm6_sz : ∀ s ∈ nm6, s.size ≤ 10 := by
 intro s hs
 unfold nm6 at hs
 simp only [List.mem_cons, List.not_mem_nil, or_false] at hs
 rcases hs with rfl | rfl | rfl | rfl | rfl | rfl <;> decide
theorem nm4_sz : ∀ s ∈ nm4, s.size ≤ 10 := by
 intro s hs
 unfold nm4 at hs
 simp only [List.mem_cons, List.not_mem_nil, or_false] at hs
 rcases hs with rfl | rfl | rfl | rfl <;> decide
theorem rd_small {ws : List ByteArray} (h : ∀ s ∈ ws, s.size ≤ 10) (i : Int) : (rdOf ByteArray.empty ws i).size ≤ 10 := by
 unfold rdOf
 rw [List.getD_eq_getElem?_getD]
 cases e : ws[i.toNat]? with
 | none => show ByteArray.empty.size ≤ 10; decide
 | some w => exact h w (List.mem_of_getElem? e)
theorem rdF_good {n : Nat} {L : List Field} (h : ∀ f ∈ L, GoodF n f) {i : Int} (h0 : 0 ≤ i) (h1 : i < (L.length : Int)) : GoodF n (rd_T54 L i) := by
 unfold rd_T54
 rw [List.getD_eq_getElem?_getD, List.getElem?_eq_getElem (by omega)]
 exact h _ (List.getElem_mem _)
theorem goodF_set {n m : Nat} (hn : n ≤ m) {L : List Field} (h : ∀ f ∈ L, GoodF n f) (i : Nat) {F : Field} (hF : GoodF m F) : ∀ f ∈ L.set i F, GoodF m f := by
 intro f hf
 rcases List.mem_or_eq_of_mem_set hf with h1 | h1
 ·have := h f h1
  exact ⟨this.1, Nat.le_trans this.2.1 hn, this.2.2⟩
 ·rw [h1]; exact hF
theorem formEnd_tot {l : List Int} {a : Int} (s : Int) (L : List Field) (hL : 1 ≤ L.length ∧ L.length ≤ 6) (hg : ∀ f ∈ L, GoodF 4 f) (h : Cu l a) (hb : a ≤ 900000) : ∃ L' a' s', spec_l1Cur_form.e l a s L = some (L', a', s') ∧ L'.length ≤ 6 ∧ (∀ f ∈ L', GoodF 5 f) ∧ Cu l a' ∧ (a ≤ a' ∧ a' ≤ a + 6) := by
 obtain ⟨i, a1, s1, e1, hi, c1, b1⟩ := pick_in s (L.length : Int) (by omega) h (by omega)
 obtain ⟨v, a2, s2, e2, hv, c2, b2⟩ := pick_in s1 20 (by omega) c1 (by omega)
 have G := rdF_good hg hi.1 hi.2
 unfold spec_l1Cur_form.e
 rw [e1, Option.bind_some]
 dsimp only
 rw [if_pos hi.1, if_pos hi.2, e2, Option.bind_some]
 dsimp only
 generalize rd_T54 L i = F at G
 have up : ∀ F' : Field, GoodF 5 F' → ∀ f ∈ L.set i.toNat F', GoodF 5 f := fun F' hF' => goodF_set (by omega) hg i.toNat hF'
 have sl : ∀ F' : Field, (L.set i.toNat F').length ≤ 6 := fun F' => by rw [List.length_set]; exact hL.2
 obtain ⟨g0, g4, g5, g6, g2, g3⟩ := G
 by_cases d0 : v = 0
 ·rw [if_pos d0]
  obtain ⟨t, a3, s3, e3, hm, c3, b3⟩ := of_tot s2 [(⟨#[107, 105, 110, 100]⟩ : ByteArray), (⟨#[]⟩ : ByteArray), (⟨#[65]⟩ : ByteArray), (⟨#[110, 111, 116, 101]⟩ : ByteArray)] (by decide) c2 (by omega)
  rw [e3, Option.bind_some]
  have hz : t.size ≤ 10 := by
   simp only [List.mem_cons, List.not_mem_nil, or_false] at hm
   rcases hm with rfl | rfl | rfl | rfl <;> decide
  exact ⟨_, _, _, rfl, sl _, up _ ⟨hz, Nat.le_succ_of_le g4, g5, g6, g2, g3⟩, c3, by first | (dsimp only; omega) | omega, by first | (dsimp only; omega) | omega⟩
 rw [if_neg d0]
 by_cases d1 : v = 1
 ·rw [if_pos d1]
  obtain ⟨t, a3, s3, e3, hm, c3, b3⟩ := pick_in s2 6 (by omega) c2 (by omega)
  rw [e3, Option.bind_some]
  exact ⟨_, _, _, rfl, sl _, up _ ⟨g0, Nat.le_succ_of_le g4, g5, g6, g2, g3⟩, c3, by first | (dsimp only; omega) | omega, by first | (dsimp only; omega) | omega⟩
 rw [if_neg d1]
 by_cases d2 : v = 2
 ·rw [if_pos d2]
  obtain ⟨t, a3, s3, e3, hm, c3, b3⟩ := among_tot s2 [(-999999), (-1000000), 40, 41, 1] (by simp) c2 (by omega)
  rw [e3, Option.bind_some]
  have hz : -2000000 ≤ t ∧ t ≤ 2000000 := by
   simp only [List.mem_cons, List.not_mem_nil, or_false] at hm
   omega
  exact ⟨_, _, _, rfl, sl _, up _ ⟨g0, Nat.le_succ_of_le g4, g5, g6, hz, g3⟩, c3, by first | (dsimp only; omega) | omega, by first | (dsimp only; omega) | omega⟩
 rw [if_neg d2]
 by_cases d3 : v = 3
 ·rw [if_pos d3]
  obtain ⟨t, a3, s3, e3, hm, c3, b3⟩ := among_tot s2 [999999, 1000000, 40, 41, (-9)] (by simp) c2 (by omega)
  rw [e3, Option.bind_some]
  have hz : -2000000 ≤ t ∧ t ≤ 2000000 := by
   simp only [List.mem_cons, List.not_mem_nil, or_false] at hm
   omega
  exact ⟨_, _, _, rfl, sl _, up _ ⟨g0, Nat.le_succ_of_le g4, g5, g6, g2, hz⟩, c3, by first | (dsimp only; omega) | omega, by first | (dsimp only; omega) | omega⟩
 rw [if_neg d3]
 by_cases d4 : v = 4
 ·rw [if_pos d4]
  obtain ⟨t, a3, s3, e3, hm, c3, b3⟩ := of_tot s2 [(⟨#[119, 101, 116]⟩ : ByteArray), (⟨#[107, 105, 110, 100]⟩ : ByteArray), F.f0, (⟨#[122, 122]⟩ : ByteArray)] (by simp) c2 (by omega)
  rw [e3, Option.bind_some]
  have hz : t.size ≤ 10 := by
   simp only [List.mem_cons, List.not_mem_nil, or_false] at hm
   rcases hm with rfl | rfl | rfl | rfl
   ·decide
   ·decide
   ·exact g0
   ·decide
  exact ⟨_, _, _, rfl, sl _, up _ ⟨g0, Nat.le_succ_of_le g4, g5, hz, g2, g3⟩, c3, by first | (dsimp only; omega) | omega, by first | (dsimp only; omega) | omega⟩
 rw [if_neg d4]
 by_cases d5 : v = 5
 ·rw [if_pos d5, if_pos (by omega)]
  refine ⟨_, _, _, rfl, sl _, up _ ⟨g0, by rw [List.length_append, List.length_singleton]; omega, fun s hs => ?_, g6, g2, g3⟩, c2, by first | (dsimp only; omega) | omega, by first | (dsimp only; omega) | omega⟩
  rcases List.mem_append.1 hs with h1 | h1
  ·exact g5 s h1
  ·rw [List.mem_singleton.1 h1]; decide
 ·rw [if_neg d5]
  exact ⟨_, _, _, rfl, sl _, up _ ⟨g0, Nat.le_succ_of_le g4, g5, g6, g2, g3⟩, c2, by first | (dsimp only; omega) | omega, by first | (dsimp only; omega) | omega⟩
def Fits (l : List Int) (m : Nat) (L : List Field) (fl : List ByteArray) (a : Int) : Prop := (1 ≤ L.length + m ∧ L.length + m ≤ 6) ∧ (∀ f ∈ L, GoodF 4 f) ∧ fl.length ≤ L.length ∧ (∀ w ∈ fl, w.size ≤ 10) ∧ Cu l a ∧ a + 20 * m ≤ 1000
def Ends (l : List Int) (r : List Field × Int × Int) : Prop := r.1.length ≤ 6 ∧ (∀ f ∈ r.1, GoodF 5 f) ∧ Cu l r.2.1 ∧ r.2.1 ≤ 2000
theorem formStop {l : List Int} (L : List Field) (fl : List ByteArray) (a s x6 : Int) (hx : ¬ x6 > 0) {r : List Field × Int × Int} (h : spec_l1Cur_form.e l a s L = some r) : Ev (fun k => spec_l1Cur_form.l0 k L nm6 fl x6 l a s) r := Ev.step (fun k => rfl) (ev_neg hx (ev_of h))
theorem formNext {l : List Int} {m : Nat} (hn : ∀ L fl a s, Fits l m L fl a → ∃ r, Ev (fun k => spec_l1Cur_form.l0 k L nm6 fl (m : Int) l a s) r ∧ Ends l r)
  (L : List Field) (fl : List ByteArray) (a s : Int) (hL : L.length + m ≤ 5) (hg : ∀ f ∈ L, GoodF 4 f) (hf : fl.length ≤ L.length) (hw : ∀ w ∈ fl, w.size ≤ 10) (hc : Cu l a) (hb : a + 20 * m ≤ 1000)
  (n : ByteArray) (kd lo hi : Int) (cs : List ByteArray) (nd : Bool) (f6 : ByteArray) (hF : GoodF 4 ⟨n, kd, lo, hi, cs, nd, f6⟩) (x6 : Int) (hx : x6 = (m : Int)) : ∃ r, Ev (fun k => if kd = 4 then (if fl.length < 8796093022208 then (if L.length < 1599289640401 then (spec_l1Cur_form.l0 k (L ++ [(⟨n, kd, lo, hi, cs, nd, f6⟩ : Field)]) nm6 (fl ++ [n]) x6 l a s) else none) else none) else (if L.length < 1599289640401 then (spec_l1Cur_form.l0 k (L ++ [(⟨n, kd, lo, hi, cs, nd, f6⟩ : Field)]) nm6 fl x6 l a s) else none)) r ∧ Ends l r := by
 subst hx
 have hl1 : (L ++ [(⟨n, kd, lo, hi, cs, nd, f6⟩ : Field)]).length = L.length + 1 := by rw [List.length_append, List.length_singleton]
 have hg1 : ∀ f ∈ L ++ [(⟨n, kd, lo, hi, cs, nd, f6⟩ : Field)], GoodF 4 f := fun f h1 => (List.mem_append.1 h1).elim (hg f) (fun h2 => by rw [List.mem_singleton.1 h2]; exact hF)
 by_cases c4 : kd = 4
 ·obtain ⟨r, h1, h2⟩ := hn (L ++ [(⟨n, kd, lo, hi, cs, nd, f6⟩ : Field)]) (fl ++ [n]) a s ⟨by omega, hg1, by rw [List.length_append, List.length_singleton]; omega, fun w h1 => (List.mem_append.1 h1).elim (hw w) (fun h2 => by rw [List.mem_singleton.1 h2]; exact hF.1), hc, by omega⟩
  exact ⟨r, ev_pos c4 (ev_pos (by omega) (ev_pos (by omega) h1)), h2⟩
 ·obtain ⟨r, h1, h2⟩ := hn (L ++ [(⟨n, kd, lo, hi, cs, nd, f6⟩ : Field)]) fl a s ⟨by omega, hg1, by omega, hw, hc, by omega⟩
  exact ⟨r, ev_neg c4 (ev_pos (by omega) h1), h2⟩
theorem formJ1 {l : List Int} {m : Nat} (hn : ∀ L fl a s, Fits l m L fl a → ∃ r, Ev (fun k => spec_l1Cur_form.l0 k L nm6 fl (m : Int) l a s) r ∧ Ends l r)
  (L : List Field) (fl : List ByteArray) (a s : Int) (hL : L.length + m ≤ 5) (hg : ∀ f ∈ L, GoodF 4 f) (hf : fl.length ≤ L.length) (hw : ∀ w ∈ fl, w.size ≤ 10) (hc : Cu l a) (hb : a + 4 + 20 * m ≤ 1000)
  (n : ByteArray) (kd lo hi : Int) (cs : List ByteArray) (nd : Bool) (hF : GoodF 4 ⟨n, kd, lo, hi, cs, nd, (⟨#[]⟩ : ByteArray)⟩) : ∃ r, Ev (fun k => spec_l1Cur_form.j1 k L nm6 fl ((m + 1 : Nat) : Int) l a s n kd lo hi cs nd (⟨#[]⟩ : ByteArray)) r ∧ Ends l r := by
 have hwr : wrap64 (((m + 1 : Nat) : Int) - 1) = (m : Int) := wrap_pred (by omega) (by omega)
 have hno : ∀ (b : Bool) (a' s' : Int), b = false → Cu l a' → a' + 20 * m ≤ 1000 → ∃ r, Ev (fun k => spec_l1Cur_form.j2 k L nm6 fl ((m + 1 : Nat) : Int) b l a' s' n kd lo hi cs nd (⟨#[]⟩ : ByteArray)) r ∧ Ends l r := by
  intro b a' s' hbf hc' hb'
  obtain ⟨r, h1, h2⟩ := formNext hn L fl a' s' hL hg hf hw hc' hb' n kd lo hi cs nd (⟨#[]⟩ : ByteArray) hF _ hwr
  exact ⟨r, Ev.step (fun k => rfl) (ev_neg (by rw [hbf]; simp) h1), h2⟩
 have hyes : ∀ (b : Bool) (a' s' : Int), b = true → 1 ≤ fl.length → Cu l a' → a' + 2 + 20 * m ≤ 1000 → ∃ r, Ev (fun k => spec_l1Cur_form.j2 k L nm6 fl ((m + 1 : Nat) : Int) b l a' s' n kd lo hi cs nd (⟨#[]⟩ : ByteArray)) r ∧ Ends l r := by
  intro b a' s' hbt h1l hc' hb'
  obtain ⟨v, a2, s2, e2, hv, c2, b2⟩ := pick_in s' (fl.length : Int) (by omega) hc' (by omega)
  have hF2 : GoodF 4 ⟨n, kd, lo, hi, cs, nd, rdOf ByteArray.empty fl v⟩ := ⟨hF.1, hF.2.1, hF.2.2.1, rd_small hw v, hF.2.2.2.2⟩
  obtain ⟨r, h1, h2⟩ := formNext hn L fl a2 s2 hL hg hf hw c2 (by omega) n kd lo hi cs nd (rdOf ByteArray.empty fl v) hF2 _ hwr
  exact ⟨r, Ev.step (fun k => rfl) (ev_pos hbt (ev_bind0 e2 (ev_pos hv.1 (ev_pos hv.2 h1)))), h2⟩
 by_cases c : (fl.length : Int) > 0
 ·obtain ⟨b, a1, s1, e1, c1, b1⟩ := one_tot s 2 hc (by omega)
  cases hb1 : b
  ·obtain ⟨r, h1, h2⟩ := hno b a1 s1 hb1 c1 (by omega)
   exact ⟨r, Ev.step (fun k => rfl) (ev_pos c (ev_bind0 e1 h1)), h2⟩
  ·obtain ⟨r, h1, h2⟩ := hyes b a1 s1 hb1 (by omega) c1 (by omega)
   exact ⟨r, Ev.step (fun k => rfl) (ev_pos c (ev_bind0 e1 h1)), h2⟩
 ·obtain ⟨r, h1, h2⟩ := hno false a s rfl hc (by omega)
  exact ⟨r, Ev.step (fun k => rfl) (ev_neg c h1), h2⟩
theorem formLoop_tot {l : List Int} : ∀ (m : Nat) (L : List Field) (fl : List ByteArray) (a s : Int), Fits l m L fl a → ∃ r, Ev (fun k => spec_l1Cur_form.l0 k L nm6 fl (m : Int) l a s) r ∧ Ends l r := by
 intro m
 induction m with
 | zero =>
  intro L fl a s h
  obtain ⟨h1, hg, hf, hw, hc, hb⟩ := h
  obtain ⟨L', a', s', e, z1, z2, z3, z4⟩ := formEnd_tot s L (by omega) hg hc (by omega)
  exact ⟨(L', a', s'), formStop L fl a s _ (by simp) e, z1, z2, z3, by show a' ≤ 2000; omega⟩
 | succ m ih =>
  intro L fl a s h
  obtain ⟨h1, hg, hf, hw, hc, hb⟩ := h
  have hnl : (nm6.length : Int) = 6 := rfl
  have hN : (rdOf ByteArray.empty nm6 (L.length : Int)).size ≤ 10 := rd_small nm6_sz _
  obtain ⟨v, a1, s1, e1, hv, c1, b1⟩ := pick_in s 4 (by omega) hc (by omega)
  obtain ⟨nd, a2, s2, e2, c2, b2⟩ := one_tot s1 2 c1 (by omega)
  have hkw : wrap64 (1 + v) = 1 + v := wrap_id (by omega) (by omega)
  have e0 : (⟨#[]⟩ : ByteArray).size ≤ 10 := by decide
  by_cases k1 : wrap64 (1 + v) = 1
  ·obtain ⟨x, a3, s3, e3, hx, c3, b3⟩ := among_tot s2 [0, (-5), 1] (by simp) c2 (by omega)
   obtain ⟨y, a4, s4, e4, hy, c4, b4⟩ := among_tot s3 [0, 10, 100] (by simp) c3 (by omega)
   simp only [List.mem_cons, List.not_mem_nil, or_false] at hx hy
   have hxy : wrap64 (x + y) = x + y := wrap_id (by omega) (by omega)
   obtain ⟨r, r1, r2⟩ := formJ1 ih L fl a4 s4 (by omega) hg hf hw c4 (by omega) (rdOf ByteArray.empty nm6 (L.length : Int)) (wrap64 (1 + v)) x (wrap64 (x + y)) [] nd ⟨hN, by simp, by simp, e0, ⟨by show -2000000 ≤ x; omega, by show x ≤ 2000000; omega⟩, ⟨by show -2000000 ≤ wrap64 (x + y); omega, by show wrap64 (x + y) ≤ 2000000; omega⟩⟩
   exact ⟨r, Ev.step (fun k => rfl) (ev_pos (by omega) (ev_pos (by omega) (ev_pos (by omega) (ev_bind0 e1 (ev_bind0 e2 (ev_pos k1 (ev_bind0 e3 (ev_bind0 e4 r1)))))))), r2⟩
  by_cases k2 : wrap64 (1 + v) = 2
  ·obtain ⟨x, a3, s3, e3, hx, c3, b3⟩ := pick_in s2 3 (by omega) c2 (by omega)
   obtain ⟨y, a4, s4, e4, hy, c4, b4⟩ := pick_in s3 20 (by omega) c3 (by omega)
   have hxy : wrap64 (x + y) = x + y := wrap_id (by omega) (by omega)
   obtain ⟨r, r1, r2⟩ := formJ1 ih L fl a4 s4 (by omega) hg hf hw c4 (by omega) (rdOf ByteArray.empty nm6 (L.length : Int)) (wrap64 (1 + v)) x (wrap64 (x + y)) [] nd ⟨hN, by simp, by simp, e0, ⟨by show -2000000 ≤ x; omega, by show x ≤ 2000000; omega⟩, ⟨by show -2000000 ≤ wrap64 (x + y); omega, by show wrap64 (x + y) ≤ 2000000; omega⟩⟩
   exact ⟨r, Ev.step (fun k => rfl) (ev_pos (by omega) (ev_pos (by omega) (ev_pos (by omega) (ev_bind0 e1 (ev_bind0 e2 (ev_neg k1 (ev_pos k2 (ev_bind0 e3 (ev_bind0 e4 r1))))))))), r2⟩
  by_cases k3 : wrap64 (1 + v) = 3
  ·obtain ⟨x, a3, s3, e3, hx, c3, b3⟩ := pick_in s2 3 (by omega) c2 (by omega)
   obtain ⟨y, a4, s4, e4, hy, c4, b4⟩ := pick_in s3 9 (by omega) c3 (by omega)
   have hq : 0 ≤ Int.tdiv y 8 ∧ Int.tdiv y 8 ≤ 1 := by
    rw [Int.tdiv_eq_ediv_of_nonneg hy.1]
    omega
   have w1 : wrap64 (1 + x) = 1 + x := wrap_id (by omega) (by omega)
   have w2 : wrap64 (Int.tdiv y 8) = Int.tdiv y 8 := wrap_id (by omega) (by omega)
   have w3 : wrap64 ((wrap64 (1 + x)) + (wrap64 (Int.tdiv y 8))) = 1 + x + Int.tdiv y 8 := by rw [w1, w2]; exact wrap_id (by omega) (by omega)
   have h4 : (nm4.length : Int) = 4 := rfl
   obtain ⟨r, r1, r2⟩ := formJ1 ih L fl a4 s4 (by omega) hg hf hw c4 (by omega) (rdOf ByteArray.empty nm6 (L.length : Int)) (wrap64 (1 + v)) 0 0 (nm4.take ((wrap64 ((wrap64 (1 + x)) + (wrap64 (Int.tdiv y 8)))) : Int).toNat) nd ⟨hN, by show (nm4.take _).length ≤ 4; rw [List.length_take]; exact Nat.le_trans (Nat.min_le_right _ _) (by decide), fun s hs => nm4_sz s (List.mem_of_mem_take hs), e0, ⟨by show (-2000000 : Int) ≤ 0; omega, by show (0 : Int) ≤ 2000000; omega⟩, ⟨by show (-2000000 : Int) ≤ 0; omega, by show (0 : Int) ≤ 2000000; omega⟩⟩
   exact ⟨r, Ev.step (fun k => rfl) (ev_pos (by omega) (ev_pos (by omega) (ev_pos (by omega) (ev_bind0 e1 (ev_bind0 e2 (ev_neg k1 (ev_neg k2 (ev_pos k3 (ev_some (ev_bind0 e3 (ev_bind0 e4 (ev_pos (by first | (dsimp only; omega) | omega) (ev_pos (by dsimp only; rw [w3]; show _ ≤ (nm4.length : Int); omega) r1))))))))))))), r2⟩
  ·obtain ⟨r, r1, r2⟩ := formJ1 ih L fl a2 s2 (by omega) hg hf hw c2 (by omega) (rdOf ByteArray.empty nm6 (L.length : Int)) (wrap64 (1 + v)) 0 0 [] nd ⟨hN, by simp, by simp, e0, ⟨by show (-2000000 : Int) ≤ 0; omega, by show (0 : Int) ≤ 2000000; omega⟩, ⟨by show (-2000000 : Int) ≤ 0; omega, by show (0 : Int) ≤ 2000000; omega⟩⟩
   exact ⟨r, Ev.step (fun k => rfl) (ev_pos (by omega) (ev_pos (by omega) (ev_pos (by omega) (ev_bind0 e1 (ev_bind0 e2 (ev_neg k1 (ev_neg k2 (ev_neg k3 r1)))))))), r2⟩
theorem form_tot {l : List Int} (h : Cu l 0) (s : Int) : ∃ L a' s', Ev (fun k => spec_l1Cur_form.f k l 0 s) (L, a', s') ∧ L.length ≤ 6 ∧ (∀ f ∈ L, GoodF 5 f) ∧ Cu l a' ∧ a' ≤ 2000 := by
 obtain ⟨v, a1, s1, e1, hv, c1, b1⟩ := pick_in s 6 (by omega) h (by omega)
 obtain ⟨m, hm⟩ : ∃ m : Nat, wrap64 (1 + v) = (m : Int) ∧ (1 ≤ m ∧ m ≤ 6) := ⟨(1 + v).toNat, by rw [wrap_id (by omega) (by omega)]; omega, by omega⟩
 obtain ⟨⟨L, a', s'⟩, h1, h2, h3, h4, h5⟩ := formLoop_tot (l := l) m [] [] a1 s1 ⟨by simp; omega, by simp, by simp, by simp, c1, by omega⟩
 refine ⟨L, a', s', ev_bind0 e1 ?_, h2, h3, h4, h5⟩
 dsimp only
 rw [hm.1]
 exact h1
end Go.Proofs.YtiaiohoadefgjaaDoor.X
set_option linter.unusedVariables false
set_option linter.unusedSimpArgs false
namespace Go.Proofs.YtiaiohoadefgjaaDoor.X
open Go.RowKit Go.Proofs.YtiaiohoadefgjaaDoorW.PrintWords Go.Proofs.YtiaiohoadefgjaaDoor.E
theorem choiceLoop_ev (F : Field) (hF : fine F) :
  Ev (fun k => impl_isField.l0 k F.f4 (F.f4.length : Int) 0 F.f0 F.f1 F.f2 F.f3 F.f4 F.f5 F.f6) (decide (F.f2 = 0 ∧ F.f3 = 0) && decide (1 ≤ (F.f4.length : Int) ∧ (F.f4.length : Int) ≤ 6) && choices F.f4) := by
 obtain ⟨g0, g4, g4s, g6⟩ := hF
 have h := ev_all0 (L := fun k i => impl_isField.l0 k F.f4 (F.f4.length : Int) i F.f0 F.f1 F.f2 F.f3 F.f4 F.f5 F.f6) F.f4.length (choiceAt F.f4) false
  (decide (F.f2 = 0 ∧ F.f3 = 0) && decide (1 ≤ (F.f4.length : Int) ∧ (F.f4.length : Int) ≤ 6)) (fun _ => Ev.step (fun k => rfl) (ev_neg (by omega) ?h0)) ?h1 ?h2
 case h0 =>
  simp only [within_eq]
  refine ev_ite (fun h => ev_ite (fun h' => ev_now ?_) (fun h' => ev_now ?_)) (fun h => ev_now ?_)
  ·rw [h, Bool.and_true]
   rw [Bool.eq_iff_iff, beq_iff_eq, decide_eq_true_eq]
   exact ⟨fun e => ⟨h', e⟩, fun e => e.2⟩
  ·rw [decide_eq_false (show ¬ (F.f2 = 0 ∧ F.f3 = 0) by omega), Bool.false_and]
  ·rw [Bool.eq_false_iff.2 h, Bool.and_false]
 case h1 =>
  intro i hi _ hc y hy
  simp only [choiceAt, Bool.and_eq_true] at hc
  refine Ev.step (fun k => rfl) (ev_pos (by omega) (ev_pos (by omega) (ev_pos (by omega) ?_)))
  simp only [rdOf, Int.toNat_natCast]
  refine Ev.bind (isName_ev _ (by rw [getD_in hi]; exact g4s _ (List.getElem_mem hi))) (ev_pos hc.1 (ev_pos (by omega) ?_))
  refine Ev.bind (slicesContainsStr_ev _ _ (by simp; omega)) (ev_neg ?_ ?_)
  ·rw [any_take _ _ hi, hc.2]; simp
  ·rw [wrap_succ hi g4]; exact hy
 case h2 =>
  intro i hi _ hc
  refine Ev.step (fun k => rfl) (ev_pos (by omega) (ev_pos (by omega) (ev_pos (by omega) ?_)))
  simp only [rdOf, Int.toNat_natCast]
  refine Ev.bind (isName_ev _ (by rw [getD_in hi]; exact g4s _ (List.getElem_mem hi))) (ev_ite (fun h1 => ev_pos (by omega) ?_) (fun _ => ev_now rfl))
  refine Ev.bind (slicesContainsStr_ev _ _ (by simp; omega)) (ev_pos ?_ (ev_now rfl))
  rw [any_take _ _ hi]
  unfold choiceAt at hc
  rw [h1, Bool.true_and] at hc
  rw [hc]; rfl
 refine ev_cast h ?_
 unfold choices
 cases (List.range F.f4.length).all (choiceAt F.f4) <;> simp
theorem kindSwitch_ev (F : Field) (hF : fine F) : Ev (fun k => impl_isField.j1 k false F.f0 F.f1 F.f2 F.f3 F.f4 F.f5 F.f6) (decide (1 ≤ F.f1 ∧ F.f1 ≤ 4) && kindOk F) := by
 have e0 : decide ((F.f4.length : Int) > 0) = !(F.f4.length == 0) := by
  cases h : (F.f4.length == 0)
  ·have : ¬ F.f4.length = 0 := by simpa using h
   rw [decide_eq_true (by omega)]; rfl
  ·have : F.f4.length = 0 := by simpa using h
   rw [decide_eq_false (by omega)]; rfl
 have bad : Ev (fun k => impl_isField.j2 k true F.f0 F.f1 F.f2 F.f3 F.f4 F.f5 F.f6) false := Ev.step (fun k => rfl) (ev_now rfl)
 refine Ev.step (fun k => rfl) ?_
 show Ev (fun k => if F.f1 = 3 then impl_isField.j2 k false F.f0 F.f1 F.f2 F.f3 F.f4 F.f5 F.f6 else impl_isField.j2 k (decide ((F.f4.length : Int) > 0)) F.f0 F.f1 F.f2 F.f3 F.f4 F.f5 F.f6) _
 have sw : F.f1 = 3 ∨ (F.f4.length == 0) = true → Ev (fun k => impl_isField.j2 k false F.f0 F.f1 F.f2 F.f3 F.f4 F.f5 F.f6) (decide (1 ≤ F.f1 ∧ F.f1 ≤ 4) && kindOk F) := by
  intro hz
  refine Ev.step (fun k => rfl) ?_
  show Ev (fun k => if F.f1 = 1 then _ else _) _
  unfold kindOk
  refine ev_ite (fun k1 => ?_) (fun k1 => ev_ite (fun k2 => ?_) (fun k2 => ev_ite (fun k3 => ?_) (fun k3 => ev_ite (fun k4 => ?_) (fun k4 => ev_now ?_))))
  ·rw [if_pos k1, decide_eq_true (show 1 ≤ F.f1 ∧ F.f1 ≤ 4 by omega), Bool.true_and, show (F.f4.length == 0) = true from hz.resolve_left (by omega), Bool.and_true]
   refine ev_ite (fun h => ev_ite (fun h' => ev_now ?_) (fun h' => ev_now ?_)) (fun h => ev_now ?_)
   ·rw [Bool.eq_iff_iff, decide_eq_true_eq, decide_eq_true_eq]; omega
   ·rw [decide_eq_false (by omega)]
   ·rw [decide_eq_false (by omega)]
  ·rw [if_neg k1, if_pos k2, decide_eq_true (show 1 ≤ F.f1 ∧ F.f1 ≤ 4 by omega), Bool.true_and, show (F.f4.length == 0) = true from hz.resolve_left (by omega), Bool.and_true]
   refine ev_ite (fun h => ev_ite (fun h' => ev_now ?_) (fun h' => ev_now ?_)) (fun h => ev_now ?_)
   ·rw [Bool.eq_iff_iff, decide_eq_true_eq, decide_eq_true_eq]; omega
   ·rw [decide_eq_false (by omega)]
   ·rw [decide_eq_false (by omega)]
  ·rw [if_neg k1, if_neg k2, if_pos k3, decide_eq_true (show 1 ≤ F.f1 ∧ F.f1 ≤ 4 by omega), Bool.true_and]
   exact choiceLoop_ev F hF
  ·rw [if_neg k1, if_neg k2, if_neg k3, if_pos k4, decide_eq_true (show 1 ≤ F.f1 ∧ F.f1 ≤ 4 by omega), Bool.true_and, show (F.f4.length == 0) = true from hz.resolve_left (by omega), Bool.and_true]
   refine ev_ite (fun h => ev_now ?_) (fun h => ev_now ?_)
   ·rw [Bool.eq_iff_iff, beq_iff_eq, decide_eq_true_eq]; exact ⟨fun e => ⟨h, e⟩, fun e => e.2⟩
   ·rw [decide_eq_false (by omega)]
  ·rw [decide_eq_false (show ¬ (1 ≤ F.f1 ∧ F.f1 ≤ 4) by omega), Bool.false_and]
 refine ev_ite (fun h3 => sw (.inl h3)) (fun h3 => ?_)
 rw [e0]
 cases hz : (F.f4.length == 0) with
 | true => exact sw (.inr hz)
 | false =>
  refine ev_cast bad ?_
  unfold kindOk
  rw [hz, if_neg h3]
  simp
theorem implField_ev (form : List Field) (i : Nat) (hi : i < form.length) (hl : form.length ≤ 9223372036854775807) (hf : fine (form.getD i zF)) :
  Ev (fun k => impl_isField.f k (form.take i) (form.getD i zF).f0 (form.getD i zF).f1 (form.getD i zF).f2 (form.getD i zF).f3 (form.getD i zF).f4 (form.getD i zF).f5 (form.getD i zF).f6) (fieldB form i) := by
 have hself : form[i]? = some (form.getD i zF) := by rw [getD_in hi, List.getElem?_eq_getElem hi]
 have hfirst := idxG_first (p := fun x : Field => x.f0.toList == (form.getD i zF).f0.toList) hself (by simp)
 have hFB : fieldB form i = (nameB (form.getD i zF).f0 && decide (fidx form (form.getD i zF).f0 = (i : Int)) && decide (1 ≤ (form.getD i zF).f1 ∧ (form.getD i zF).f1 ≤ 4) && ifOk form i (form.getD i zF).f6 && kindOk (form.getD i zF)) := rfl
 rw [hFB]
 clear hFB hself
 generalize form.getD i zF = F at *
 obtain ⟨g0, g4, g4s, g6⟩ := id hf
 have stop : ∀ b, b = false → Ev (fun k => impl_isField.j0 k (form.take i) true F.f0 F.f1 F.f2 F.f3 F.f4 F.f5 F.f6) b := fun b hb => hb ▸ Ev.step (fun k => rfl) (ev_now rfl)
 unfold impl_isField.f
 simp only [fieldOf_eq]
 refine Ev.bind (isName_ev F.f0 g0) (ev_ite (fun h1 => ?_) (fun h1 => stop _ (by simp [h1])))
 show Ev (fun k => impl_isField.j0 k (form.take i) (decide (fidx (form.take i) F.f0 ≥ 0)) F.f0 F.f1 F.f2 F.f3 F.f4 F.f5 F.f6) _
 by_cases h2 : fidx form F.f0 = (i : Int)
 case neg =>
  have h2' : ¬ fidx (form.take i) F.f0 < 0 := fun h => h2 (hfirst.2 h)
  rw [decide_eq_true (show fidx (form.take i) F.f0 ≥ 0 by omega)]
  exact stop _ (by simp [h2])
 have h2' := hfirst.1 h2
 rw [decide_eq_false (show ¬ fidx (form.take i) F.f0 ≥ 0 from by have : fidx (form.take i) F.f0 < 0 := h2'; omega)]
 rw [h1, decide_eq_true h2, Bool.true_and, Bool.true_and]
 have bad : ∀ b, b = false → Ev (fun k => impl_isField.j1 k true F.f0 F.f1 F.f2 F.f3 F.f4 F.f5 F.f6) b := fun b hb => hb ▸ Ev.step (fun k => rfl) (ev_now rfl)
 have good := kindSwitch_ev F hf
 refine Ev.step (fun k => rfl) ?_
 simp only [impl_isField.j0]
 refine ev_neg (by simp) (ev_bind0 (fieldOf_eq _ _) ?_)
 unfold ifOk
 refine ev_ite (fun h4 => ev_cast good (by simp [h4])) (fun h4 => ?_)
 have h4' : (F.f6.toList == []) = false := by simpa using h4
 rw [h4', Bool.false_or]
 have hif : fidx (form.take i) F.f6 = if ((0 : Nat) : Int) ≤ fidx form F.f6 ∧ fidx form F.f6 < ((0 + i : Nat) : Int) then fidx form F.f6 else -1 := idxG_take _ form 0 i
 refine ev_ite (fun h5 => bad _ ?_) (fun h5 => ?_)
 ·have : ¬ (0 ≤ fidx form F.f6 ∧ fidx form F.f6 < (i : Int)) := by
   intro h
   rw [hif, if_pos (by omega)] at h5
   omega
  rw [decide_eq_false this]; simp
 ·have hr : 0 ≤ fidx form F.f6 ∧ fidx form F.f6 < (i : Int) := by
   refine Classical.byContradiction (fun h => ?_)
   rw [hif, if_neg (by omega)] at h5
   omega
  have he : fidx (form.take i) F.f6 = fidx form F.f6 := by rw [hif, if_pos (by omega)]
  rw [decide_eq_true hr, Bool.true_and]
  have hlen : (form.take i).length = i := by simp; omega
  refine ev_pos (by omega) (ev_pos (by rw [he, hlen]; omega) ?_)
  have hrd : rd_T54 (form.take i) (fidx (form.take i) F.f6) = form.getD (fidx form F.f6).toNat zF := by
   unfold rd_T54
   rw [he, getD_in (by rw [hlen]; omega), List.getElem_take, getD_in (by omega)]
  simp only [hrd]
  by_cases h7 : (form.getD (fidx form F.f6).toNat zF).f1 = 4
  ·have e : ((form.getD (fidx form F.f6).toNat zF).f1 != 4) = false := bne_eq_false_iff_eq.mpr h7
   rw [e, h7]
   exact ev_cast good (by simp)
  ·have e : ((form.getD (fidx form F.f6).toNat zF).f1 != 4) = true := bne_iff_ne.mpr h7
   rw [e]
   rw [show ((form.getD (fidx form F.f6).toNat zF).f1 == 4) = false from beq_eq_false_iff_ne.mpr h7]
   exact bad _ (by simp)
theorem implForm_ev (form : List Field) (hl : form.length ≤ 9223372036854775807) (hf : ∀ f ∈ form, fine f) : Ev (fun k => impl_IsValidForm.f k form) (formB form) := by
 have h := ev_all0 (L := fun k i => impl_IsValidForm.l0 k form form (form.length : Int) i) form.length (fieldB form) false (decide ((form.length : Int) ≤ 10)) (fun _ => Ev.step (fun k => rfl) (ev_neg (by omega) (ev_now rfl))) ?h1 ?h2
 case h1 =>
  intro i hi _ hc y hy
  refine Ev.step (fun k => rfl) (ev_pos (by omega) (ev_pos (by omega) (ev_pos (by omega) (ev_pos (by omega) ?_))))
  simp only [rd_T54, Int.toNat_natCast]
  refine Ev.bind (implField_ev form i hi hl (hf _ (by rw [getD_in hi]; exact List.getElem_mem hi))) (ev_pos hc ?_)
  rw [wrap_succ hi hl]; exact hy
 case h2 =>
  intro i hi _ hc
  refine Ev.step (fun k => rfl) (ev_pos (by omega) (ev_pos (by omega) (ev_pos (by omega) (ev_pos (by omega) ?_))))
  simp only [rd_T54, Int.toNat_natCast]
  exact Ev.bind (implField_ev form i hi hl (hf _ (by rw [getD_in hi]; exact List.getElem_mem hi))) (ev_neg (by rw [hc]; simp) (ev_now rfl))
 refine ev_cast h ?_
 unfold formB
 cases (List.range form.length).all (fieldB form) <;> simp
end Go.Proofs.YtiaiohoadefgjaaDoor.X
set_option linter.unusedVariables false
set_option linter.unusedSimpArgs false
namespace Go.Proofs.YtiaiohoadefgjaaDoor.X
open Go.RowKit Go.Proofs.YtiaiohoadefgjaaDoorW.PrintWords Go.Proofs.YtiaiohoadefgjaaDoor.E
def numB (n : Int) : ByteArray := ⟨(Lib.itoa n).toArray⟩
def decB (u : Nat) : ByteArray := ⟨(Lib.decDigits u).toArray⟩
theorem digit_fin : ∀ i : Fin 10, (⟨#[48, 49, 50, 51, 52, 53, 54, 55, 56, 57]⟩ : ByteArray).extract i.val (i.val + 1) = ⟨#[UInt8.ofNat (48 + i.val)]⟩ := by decide +kernel
theorem digit_at (i : Int) (j : Int) (h0 : 0 ≤ i) (h1 : i < 10) (hj : j = i + 1) : (⟨#[48, 49, 50, 51, 52, 53, 54, 55, 56, 57]⟩ : ByteArray).extract i.toNat j.toNat = ⟨#[UInt8.ofNat (48 + i.toNat)]⟩ := by
 rw [show j.toNat = i.toNat + 1 by omega]
 exact digit_fin ⟨i.toNat, by omega⟩
theorem ba_append (l m : List UInt8) : (⟨l.toArray⟩ : ByteArray) ++ (⟨m.toArray⟩ : ByteArray) = ⟨(l ++ m).toArray⟩ := by
 apply ByteArray.ext
 rw [ByteArray.data_append]
 simp
theorem ba_size (l : List UInt8) : (⟨l.toArray⟩ : ByteArray).size = l.length := rfl
theorem decB_size (u : Nat) (h : u < 18446744073709551616) : (decB u).size ≤ 20 := by
 unfold decB
 rw [ba_size, Lib.decDigits_length]
 exact Lib.nDigits_le20 u h
theorem numB_size (n : Int) (h0 : -9223372036854775808 ≤ n) (h1 : n ≤ 9223372036854775807) : (numB n).size ≤ 21 := by
 unfold numB
 rw [ba_size]
 exact Lib.itoa_length_le n h0 h1
theorem l1Num_nat : ∀ (u : Nat), u ≤ 9223372036854775807 → Ev (fun k => spec_l1Num.f k (u : Int)) (decB u) := by
 intro u
 induction u using Nat.strongRecOn with
 | _ u ih =>
  intro hu
  refine Ev.step (fun k => rfl) (ev_neg (by omega) ?_)
  by_cases h : u < 10
  ·have hw : wrap64 ((u : Int) + 1) = (u : Int) + 1 := wrap_id (by omega) (by omega)
   rw [hw]
   refine ev_pos (by omega) (ev_pos (by omega) (ev_pos (by omega) (ev_pos (by omega) (ev_now ?_))))
   rw [digit_at (u : Int) _ (by omega) (by omega) rfl]
   unfold decB
   rw [Lib.decDigits, dif_pos h, Int.toNat_natCast]
  ·refine ev_neg (by omega) ?_
   have hd : Int.tdiv (u : Int) 10 = ((u / 10 : Nat) : Int) := by rw [Int.tdiv_eq_ediv_of_nonneg (by omega)]; omega
   have hm : Int.tmod (u : Int) 10 = ((u % 10 : Nat) : Int) := by rw [Int.tmod_eq_emod_of_nonneg (by omega)]; omega
   have hw : wrap64 ((u / 10 : Nat) : Int) = ((u / 10 : Nat) : Int) := wrap_id (by omega) (by omega)
   have hw2 : wrap64 (((u % 10 : Nat) : Int) + 1) = ((u % 10 : Nat) : Int) + 1 := wrap_id (by omega) (by omega)
   rw [hd, hw, hm, hw2]
   refine Ev.bind (ih (u / 10) (by omega) (by omega)) ?_
   rw [digit_at ((u % 10 : Nat) : Int) _ (by omega) (by omega) rfl]
   have hs := decB_size (u / 10) (by omega)
   have h1 : (⟨#[UInt8.ofNat (48 + ((u % 10 : Nat) : Int).toNat)]⟩ : ByteArray).size = 1 := rfl
   refine ev_pos (by omega) (ev_pos (by omega) (ev_pos (by omega) (ev_pos (by omega) (ev_now ?_))))
   unfold decB
   rw [show (⟨#[UInt8.ofNat (48 + ((u % 10 : Nat) : Int).toNat)]⟩ : ByteArray) = ⟨[UInt8.ofNat (48 + u % 10)].toArray⟩ by rw [Int.toNat_natCast], ba_append]
   conv => rhs; rw [Lib.decDigits, dif_neg h]
theorem l1Num_ev (n : Int) (h0 : -9223372036854775807 ≤ n) (h1 : n ≤ 9223372036854775807) : Ev (fun k => spec_l1Num.f k n) (numB n) := by
 by_cases hn : n < 0
 ·have hw : wrap64 (-n) = ((n.natAbs : Nat) : Int) := by rw [wrap_id (by omega) (by omega)]; omega
  refine Ev.step (fun k => rfl) (ev_pos hn ?_)
  rw [hw]
  have hs := decB_size n.natAbs (by omega)
  refine Ev.bind (l1Num_nat _ (by omega)) (ev_pos (by omega) (ev_now ?_))
  unfold numB decB
  rw [show (⟨#[45]⟩ : ByteArray) = ⟨[45].toArray⟩ from rfl, ba_append, Lib.itoa, if_pos hn]
  rfl
 ·obtain ⟨u, rfl⟩ : ∃ u : Nat, n = u := ⟨n.toNat, by omega⟩
  refine ev_cast (l1Num_nat u (by omega)) ?_
  unfold numB decB
  rw [Lib.itoa, if_neg hn, Int.toNat_natCast]
end Go.Proofs.YtiaiohoadefgjaaDoor.X
set_option linter.unusedVariables false
set_option linter.unusedSimpArgs false
namespace Go.Proofs.YtiaiohoadefgjaaDoor.X
open Go.RowKit Go.Proofs.YtiaiohoadefgjaaDoorW.PrintWords Go.Proofs.YtiaiohoadefgjaaDoor.E
def jn (s : ByteArray) (ws : List ByteArray) : ByteArray := ws.foldl (fun s w => (s ++ (⟨#[32]⟩ : ByteArray)) ++ w) s
theorem jn_list : ∀ (ws : List ByteArray) (s : ByteArray), (jn s ws).data.toList = s.data.toList ++ Lib.joinTail [32] (ws.map (·.data.toList))
 | [], s => by simp [jn, Lib.joinTail]
 | w :: ws, s => by
  have h := jn_list ws ((s ++ (⟨#[32]⟩ : ByteArray)) ++ w)
  show (jn ((s ++ (⟨#[32]⟩ : ByteArray)) ++ w) ws).data.toList = _
  rw [h]
  simp [Lib.joinTail, ByteArray.data_append]
theorem jn_app (s : ByteArray) (a b : List ByteArray) : jn (jn s a) b = jn s (a ++ b) := by unfold jn; rw [List.foldl_append]
def wsum (ws : List ByteArray) : Nat := (ws.map (fun w => w.size + 1)).sum
theorem jn_size : ∀ (ws : List ByteArray) (s : ByteArray), (jn s ws).size = s.size + wsum ws
 | [], s => by simp [jn, wsum]
 | w :: ws, s => by
  have h := jn_size ws ((s ++ (⟨#[32]⟩ : ByteArray)) ++ w)
  show (jn ((s ++ (⟨#[32]⟩ : ByteArray)) ++ w) ws).size = _
  have h1 : (⟨#[32]⟩ : ByteArray).size = 1 := rfl
  rw [h, ByteArray.size_append, ByteArray.size_append]
  unfold wsum
  rw [List.map_cons, List.sum_cons]
  omega
theorem join_jn (x : ByteArray) (ws : List ByteArray) : (⟨(Lib.join ((x :: ws).map (·.data.toList)) [32]).toArray⟩ : ByteArray) = jn x ws := by
 apply ByteArray.ext
 apply Array.toList_inj.1
 rw [jn_list, List.map_cons, Lib.join_cons]
theorem join_len (x : ByteArray) (ws : List ByteArray) : (Lib.join ((x :: ws).map (·.data.toList)) [32]).length = x.size + wsum ws := by
 rw [← jn_size, ← join_jn]
 rfl
def kindW (F : Field) : List ByteArray :=
 if F.f1 = 1 then [⟨#[110, 117, 109, 98, 101, 114]⟩, numB F.f2, numB F.f3]
 else if F.f1 = 2 then [⟨#[116, 101, 120, 116]⟩, numB F.f2, numB F.f3]
 else if F.f1 = 3 then ⟨#[99, 104, 111, 105, 99, 101]⟩ :: F.f4 else [⟨#[102, 108, 97, 103]⟩]
def needW (b : Bool) : List ByteArray := if b = true then [⟨#[110, 101, 101, 100, 101, 100]⟩] else []
def ifW (s : ByteArray) : List ByteArray := if s.toList = ([] : List UInt8) then [] else [⟨#[105, 102]⟩, s]
def lineB (F : Field) : ByteArray := jn F.f0 (kindW F ++ (needW F.f5 ++ ifW F.f6))
def Small (F : Field) : Prop := F.f0.size ≤ 1048576 ∧ F.f4.length ≤ 6 ∧ (∀ s ∈ F.f4, s.size ≤ 1048576) ∧ F.f6.size ≤ 1048576
theorem wsum_le {ws : List ByteArray} (h : ∀ s ∈ ws, s.size ≤ 1048576) : wsum ws ≤ 1048577 * ws.length := by
 induction ws with
 | nil => simp [wsum]
 | cons w ws ih =>
  have h1 := h w (List.mem_cons_self ..)
  have h2 := ih (fun s hs => h s (List.mem_cons_of_mem _ hs))
  unfold wsum at *
  rw [List.map_cons, List.sum_cons, List.length_cons]
  omega
theorem need_eq (s : ByteArray) : jn s (needW true) = s ++ (⟨#[32, 110, 101, 101, 100, 101, 100]⟩ : ByteArray) := by
 show (s ++ (⟨#[32]⟩ : ByteArray)) ++ (⟨#[110, 101, 101, 100, 101, 100]⟩ : ByteArray) = _
 rw [ByteArray.append_assoc]; rfl
theorem if_eq (s x : ByteArray) (h : ¬ x.toList = ([] : List UInt8)) : jn s (ifW x) = (s ++ (⟨#[32, 105, 102, 32]⟩ : ByteArray)) ++ x := by
 unfold ifW
 rw [if_neg h]
 show (((s ++ (⟨#[32]⟩ : ByteArray)) ++ (⟨#[105, 102]⟩ : ByteArray)) ++ (⟨#[32]⟩ : ByteArray)) ++ x = _
 rw [show (⟨#[32, 105, 102, 32]⟩ : ByteArray) = ((⟨#[32]⟩ : ByteArray) ++ (⟨#[105, 102]⟩ : ByteArray)) ++ (⟨#[32]⟩ : ByteArray) from rfl]
 simp only [ByteArray.append_assoc]
theorem tail_eq (s : ByteArray) (b : Bool) (x : ByteArray) (hs : s.size ≤ 100000000) (hx : x.size ≤ 1048576) :
  (if b = true then (if s.size + 7 ≤ 9223372036854775807 then (if x.toList = ([] : List UInt8) then (some (s ++ (⟨#[32, 110, 101, 101, 100, 101, 100]⟩ : ByteArray))) else (if (s ++ (⟨#[32, 110, 101, 101, 100, 101, 100]⟩ : ByteArray)).size + 4 ≤ 9223372036854775807 then (if ((s ++ (⟨#[32, 110, 101, 101, 100, 101, 100]⟩ : ByteArray)) ++ (⟨#[32, 105, 102, 32]⟩ : ByteArray)).size + x.size ≤ 9223372036854775807 then (some (((s ++ (⟨#[32, 110, 101, 101, 100, 101, 100]⟩ : ByteArray)) ++ (⟨#[32, 105, 102, 32]⟩ : ByteArray)) ++ x)) else (none)) else (none))) else (none)) else (if x.toList = ([] : List UInt8) then (some s) else (if s.size + 4 ≤ 9223372036854775807 then (if (s ++ (⟨#[32, 105, 102, 32]⟩ : ByteArray)).size + x.size ≤ 9223372036854775807 then (some ((s ++ (⟨#[32, 105, 102, 32]⟩ : ByteArray)) ++ x)) else (none)) else (none)))) = some (jn s (needW b ++ ifW x)) := by
 have h7 : (s ++ (⟨#[32, 110, 101, 101, 100, 101, 100]⟩ : ByteArray)).size = s.size + 7 := by rw [ByteArray.size_append]; rfl
 have h4 : ∀ t : ByteArray, (t ++ (⟨#[32, 105, 102, 32]⟩ : ByteArray)).size = t.size + 4 := fun t => by rw [ByteArray.size_append]; rfl
 rw [← jn_app]
 cases b
 ·rw [if_neg (by simp), show jn s (needW false) = s from rfl]
  by_cases c : x.toList = ([] : List UInt8)
  ·rw [if_pos c]; unfold ifW; rw [if_pos c]; rfl
  ·rw [if_neg c, if_pos (by omega), if_pos (by rw [h4]; omega), if_eq _ _ c]
 ·rw [if_pos rfl, if_pos (by omega), need_eq]
  by_cases c : x.toList = ([] : List UInt8)
  ·rw [if_pos c]; unfold ifW; rw [if_pos c]; rfl
  ·rw [if_neg c, if_pos (by omega), if_pos (by rw [h4]; omega), if_eq _ _ c]
theorem numB_small (n : Int) (h0 : -999999 ≤ n) (h1 : n ≤ 999999) : (numB n).size ≤ 21 := numB_size n (by omega) (by omega)
theorem two_words (s : ByteArray) (w : ByteArray) (l : ByteArray) (hw : (⟨#[32]⟩ : ByteArray) ++ (w ++ (⟨#[32]⟩ : ByteArray)) = l) (t u : ByteArray) : (((s ++ l) ++ t) ++ (⟨#[32]⟩ : ByteArray)) ++ u = jn s [w, t, u] := by
 subst hw
 show _ = (((((s ++ (⟨#[32]⟩ : ByteArray)) ++ w) ++ (⟨#[32]⟩ : ByteArray)) ++ t) ++ (⟨#[32]⟩ : ByteArray)) ++ u
 simp only [ByteArray.append_assoc]
theorem specLine_ev (F : Field) (hk : kindOk F = true) (hs : Small F) : Ev (fun k => spec_l23Line.f k F.f0 F.f1 F.f2 F.f3 F.f4 F.f5 F.f6) (lineB F) := by
 obtain ⟨s0, s4, s5, s6⟩ := hs
 have z1 : ∀ t : ByteArray, (t ++ (⟨#[32]⟩ : ByteArray)).size = t.size + 1 := fun t => by rw [ByteArray.size_append]; rfl
 unfold spec_l23Line.f lineB kindW
 unfold kindOk at hk
 by_cases c1 : F.f1 = 1
 ·rw [if_pos c1] at hk ⊢
  simp only [Bool.and_eq_true, decide_eq_true_eq] at hk
  have n2 := numB_small F.f2 (by omega) (by omega)
  have n3 := numB_small F.f3 (by omega) (by omega)
  have z8 : (F.f0 ++ (⟨#[32, 110, 117, 109, 98, 101, 114, 32]⟩ : ByteArray)).size = F.f0.size + 8 := by rw [ByteArray.size_append]; rfl
  have e := two_words F.f0 (⟨#[110, 117, 109, 98, 101, 114]⟩ : ByteArray) (⟨#[32, 110, 117, 109, 98, 101, 114, 32]⟩ : ByteArray) rfl (numB F.f2) (numB F.f3)
  refine ev_pos c1 (ev_pos (by omega) (Ev.bind (l1Num_ev F.f2 (by omega) (by omega)) (ev_pos (by omega) (ev_pos (by rw [ByteArray.size_append]; omega) (Ev.bind (l1Num_ev F.f3 (by omega) (by omega)) (ev_pos (by rw [z1, ByteArray.size_append]; omega) ?_))))))
  rw [← jn_app, ← e]
  exact ev_of (tail_eq _ F.f5 F.f6 (by rw [ByteArray.size_append, z1, ByteArray.size_append]; omega) s6)
 rw [if_neg c1] at hk ⊢
 refine ev_neg c1 ?_
 by_cases c2 : F.f1 = 2
 ·rw [if_pos c2] at hk ⊢
  simp only [Bool.and_eq_true, decide_eq_true_eq] at hk
  have n2 := numB_small F.f2 (by omega) (by omega)
  have n3 := numB_small F.f3 (by omega) (by omega)
  have z6 : (F.f0 ++ (⟨#[32, 116, 101, 120, 116, 32]⟩ : ByteArray)).size = F.f0.size + 6 := by rw [ByteArray.size_append]; rfl
  have e := two_words F.f0 (⟨#[116, 101, 120, 116]⟩ : ByteArray) (⟨#[32, 116, 101, 120, 116, 32]⟩ : ByteArray) rfl (numB F.f2) (numB F.f3)
  refine ev_pos c2 (ev_pos (by omega) (Ev.bind (l1Num_ev F.f2 (by omega) (by omega)) (ev_pos (by omega) (ev_pos (by rw [ByteArray.size_append]; omega) (Ev.bind (l1Num_ev F.f3 (by omega) (by omega)) (ev_pos (by rw [z1, ByteArray.size_append]; omega) ?_))))))
  rw [← jn_app, ← e]
  exact ev_of (tail_eq _ F.f5 F.f6 (by rw [ByteArray.size_append, z1, ByteArray.size_append]; omega) s6)
 rw [if_neg c2] at hk ⊢
 refine ev_neg c2 ?_
 by_cases c3 : F.f1 = 3
 ·rw [if_pos c3]
  refine ev_pos c3 (ev_pos (by omega) ?_)
  have z7 : (F.f0 ++ (⟨#[32, 99, 104, 111, 105, 99, 101]⟩ : ByteArray)).size = F.f0.size + 7 := by rw [ByteArray.size_append]; rfl
  have e : F.f0 ++ (⟨#[32, 99, 104, 111, 105, 99, 101]⟩ : ByteArray) = jn F.f0 [⟨#[99, 104, 111, 105, 99, 101]⟩] := by
   show _ = (F.f0 ++ (⟨#[32]⟩ : ByteArray)) ++ (⟨#[99, 104, 111, 105, 99, 101]⟩ : ByteArray)
   rw [ByteArray.append_assoc]; rfl
  have hL := ev_scan0 (L := fun k (s : ByteArray) i => spec_l23Line.l0 k s i F.f0 F.f1 F.f2 F.f3 F.f4 F.f5 F.f6) (G := fun s i (r : List ByteArray) => jn (jn s r) (needW F.f5 ++ ifW F.f6)) (fun s i r => s.size ≤ 2000000 + 1048577 * i) F.f4 (F.f0 ++ (⟨#[32, 99, 104, 111, 105, 99, 101]⟩ : ByteArray)) (by rw [z7]; omega) ?h1 ?h2
  case h1 =>
   intro s hI
   refine Ev.step (fun k => rfl) (ev_neg (by omega) (ev_of (tail_eq s F.f5 F.f6 (by omega) s6)))
  case h2 =>
   intro s i x r hI hi hd hx hgo
   have hxs : x.size ≤ 1048576 := by rw [← hx ByteArray.empty, getD_in hi]; exact s5 _ (List.getElem_mem _)
   have hr : rdOf ByteArray.empty F.f4 (i : Int) = x := by unfold rdOf; rw [Int.toNat_natCast]; exact hx _
   refine Ev.step (fun k => rfl) (ev_pos (by omega) (ev_pos (by omega) (ev_pos (by omega) (ev_pos (by rw [hr, z1]; omega) ?_))))
   rw [hr, wrap_succ hi (by omega)]
   exact hgo _ (by rw [ByteArray.size_append, z1]; omega)
  refine ev_cast hL ?_
  rw [e, jn_app, jn_app]
  rfl
 rw [if_neg c3]
 refine ev_neg c3 (ev_pos (by omega) ?_)
 have z5 : (F.f0 ++ (⟨#[32, 102, 108, 97, 103]⟩ : ByteArray)).size = F.f0.size + 5 := by rw [ByteArray.size_append]; rfl
 have e : F.f0 ++ (⟨#[32, 102, 108, 97, 103]⟩ : ByteArray) = jn F.f0 [⟨#[102, 108, 97, 103]⟩] := by
  show _ = (F.f0 ++ (⟨#[32]⟩ : ByteArray)) ++ (⟨#[102, 108, 97, 103]⟩ : ByteArray)
  rw [ByteArray.append_assoc]; rfl
 rw [← jn_app, ← e]
 exact ev_of (tail_eq _ F.f5 F.f6 (by rw [z5]; omega) s6)
end Go.Proofs.YtiaiohoadefgjaaDoor.X
