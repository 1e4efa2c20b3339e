/- For every row of bytes the law FnForms answers true: forms are recovered from their texts. No condition.
This file (part 7 of 7) holds what the proof needs: plain functions with rounds and contracts written by programs of this work over the translation, and the lemmas. -/
import Derived.Test.YtiaiohoadefgjaaDoorZFnForms6
import Derived.Test.YtiaiohoadefgjaaDoorZFnForms5
import Derived.Test.YtiaiohoadefgjaaDoorZFnForms3
import Derived.Test.YtiaiohoadefgjaaDoorZFnForms2
import Derived.Lib.AtoiAllCases
import Derived.Lib.Strings
import Derived.Lib.SplitLaws
import Derived.Lib.IndexBytes
import Derived.Test.YtiaiohoadefgjaaDoorTie
import Derived.Test.YtiaiohoadefgjaaDoorCards
import Derived.Test.YtiaiohoadefgjaaDoorRows
import Derived.WalkKit
import Derived.ProofKit
import Derived.OpenShut
import Derived.ShutString
import Derived.ChangeOld
import Derived.Below
import Derived.SizedLaws
import Derived.Lib.SmallJoins
import Derived.LaidMore
import Derived.Stop.Joined
import Derived.Stop.LaidErr
import Derived.Lib.LaidTab
import Derived.Lib.ItoaNum
import Derived.LaidSub
import Derived.Handed
import Derived.SevenTiedAt
import Derived.Lay
set_option linter.unusedVariables false
set_option linter.unusedSimpArgs false
namespace Go.Proofs.YtiaiohoadefgjaaDoor.X
open Go.RowKit Go.Proofs.YtiaiohoadefgjaaDoorW.PrintWords Go.Proofs.YtiaiohoadefgjaaDoor.E
theorem wsum_app (a b : List ByteArray) : wsum (a ++ b) = wsum a + wsum b := by simp [wsum]
theorem join_f (x : ByteArray) (ws : List ByteArray) (h : x.size + wsum ws ≤ 100000000000) (h2 : ws.length ≤ 1000) : strings_Join.f (x :: ws) (⟨#[32]⟩ : ByteArray) = some (jn x ws) := by
 have e : (⟨#[32]⟩ : ByteArray).data.toList = [32] := rfl
 unfold strings_Join.f
 rw [e, if_pos ⟨by rw [join_len]; omega, by rw [List.length_cons]; omega⟩, join_jn]
theorem implJ_ev (F : Field) (us : List ByteArray) (hu : us.length ≤ 10) (hz : F.f0.size + wsum us ≤ 100000000) (h6 : F.f6.size ≤ 1048576) :
  Ev (fun k => impl_fieldLine.j0 k (F.f0 :: us) F.f0 F.f1 F.f2 F.f3 F.f4 F.f5 F.f6) (jn F.f0 (us ++ (needW F.f5 ++ ifW F.f6))) := by
 have fin : ∀ vs : List ByteArray, vs.length ≤ 3 → (∀ s ∈ vs, s.size ≤ 1048576) → strings_Join.f (F.f0 :: (us ++ vs)) (⟨#[32]⟩ : ByteArray) = some (jn F.f0 (us ++ vs)) := by
  intro vs h1 h2
  have := wsum_le h2
  refine join_f _ _ ?_ (by rw [List.length_append]; omega)
  rw [wsum_app]
  have : 1048577 * vs.length ≤ 1048577 * 3 := Nat.mul_le_mul_left _ h1
  omega
 have hn : (⟨#[110, 101, 101, 100, 101, 100]⟩ : ByteArray).size ≤ 1048576 := by decide
 have hi : (⟨#[105, 102]⟩ : ByteArray).size ≤ 1048576 := by decide
 refine Ev.step (fun k => rfl) ?_
 by_cases c5 : F.f5 = true
 ·rw [show needW F.f5 = [⟨#[110, 101, 101, 100, 101, 100]⟩] from by unfold needW; exact if_pos c5]
  refine ev_pos c5 (ev_pos (by rw [List.length_cons]; omega) (ev_some ?_))
  by_cases c6 : F.f6.toList = ([] : List UInt8)
  ·rw [show ifW F.f6 = [] from by unfold ifW; exact if_pos c6]
   have h := fin [⟨#[110, 101, 101, 100, 101, 100]⟩] (by simp) (List.forall_mem_cons.2 ⟨hn, fun _ h => nomatch h⟩)
   rw [← List.cons_append] at h
   exact ev_pos c6 (ev_bind0 h (ev_now rfl))
  ·rw [show ifW F.f6 = [⟨#[105, 102]⟩, F.f6] from by unfold ifW; exact if_neg c6]
   have h := fin [⟨#[110, 101, 101, 100, 101, 100]⟩, ⟨#[105, 102]⟩, F.f6] (by simp) (List.forall_mem_cons.2 ⟨hn, List.forall_mem_cons.2 ⟨hi, List.forall_mem_cons.2 ⟨h6, fun _ h => nomatch h⟩⟩⟩)
   have e : F.f0 :: (us ++ [⟨#[110, 101, 101, 100, 101, 100]⟩, ⟨#[105, 102]⟩, F.f6]) = (F.f0 :: us ++ [⟨#[110, 101, 101, 100, 101, 100]⟩]) ++ [⟨#[105, 102]⟩, F.f6] := by simp
   rw [e] at h
   exact ev_neg c6 (ev_some (ev_pos (by simp only [List.length_cons, List.length_append, List.length_nil]; omega) (ev_bind0 h (ev_now rfl))))
 ·rw [show needW F.f5 = [] from by unfold needW; exact if_neg c5]
  refine ev_neg c5 ?_
  by_cases c6 : F.f6.toList = ([] : List UInt8)
  ·rw [show ifW F.f6 = [] from by unfold ifW; exact if_pos c6]
   have h := fin [] (by simp) (fun _ h => nomatch h)
   rw [List.append_nil] at h
   exact ev_pos c6 (ev_bind0 h (ev_now (by simp)))
  ·rw [show ifW F.f6 = [⟨#[105, 102]⟩, F.f6] from by unfold ifW; exact if_neg c6]
   have h := fin [⟨#[105, 102]⟩, F.f6] (by simp) (List.forall_mem_cons.2 ⟨hi, List.forall_mem_cons.2 ⟨h6, fun _ h => nomatch h⟩⟩)
   rw [← List.cons_append] at h
   exact ev_neg c6 (ev_some (ev_pos (by simp only [List.length_cons, List.length_nil]; omega) (ev_bind0 h (ev_now rfl))))
theorem itoaF (n : Int) (h0 : -999999 ≤ n) (h1 : n ≤ 999999) : strconv_Itoa.f n = some (numB n) := by unfold strconv_Itoa.f; rw [if_pos ⟨by omega, by omega⟩]; rfl
theorem kindW_len (F : Field) (h : F.f4.length ≤ 6) : (kindW F).length ≤ 7 := by
 unfold kindW
 split
 ·simp
 ·split
  ·simp
  ·split
   ·simp only [List.length_cons]; omega
   ·simp
theorem kindW_size (F : Field) (hk : kindOk F = true) (hs : Small F) : ∀ s ∈ kindW F, s.size ≤ 1048576 := by
 obtain ⟨s0, s4, s5, s6⟩ := hs
 unfold kindOk at hk
 unfold kindW
 by_cases c1 : F.f1 = 1
 ·rw [if_pos c1] at hk ⊢
  simp only [Bool.and_eq_true, decide_eq_true_eq] at hk
  have n2 := numB_small F.f2 (by omega) (by omega)
  have n3 := numB_small F.f3 (by omega) (by omega)
  exact List.forall_mem_cons.2 ⟨by decide, List.forall_mem_cons.2 ⟨by omega, List.forall_mem_cons.2 ⟨by omega, fun _ h => nomatch h⟩⟩⟩
 rw [if_neg c1] at hk ⊢
 by_cases c2 : F.f1 = 2
 ·rw [if_pos c2] at hk ⊢
  simp only [Bool.and_eq_true, decide_eq_true_eq] at hk
  have n2 := numB_small F.f2 (by omega) (by omega)
  have n3 := numB_small F.f3 (by omega) (by omega)
  exact List.forall_mem_cons.2 ⟨by decide, List.forall_mem_cons.2 ⟨by omega, List.forall_mem_cons.2 ⟨by omega, fun _ h => nomatch h⟩⟩⟩
 rw [if_neg c2]
 by_cases c3 : F.f1 = 3
 ·rw [if_pos c3]
  exact List.forall_mem_cons.2 ⟨by decide, s5⟩
 rw [if_neg c3]
 exact List.forall_mem_cons.2 ⟨by decide, fun _ h => nomatch h⟩
theorem implLine_ev (F : Field) (hk : kindOk F = true) (hs : Small F) : Ev (fun k => impl_fieldLine.f k F.f0 F.f1 F.f2 F.f3 F.f4 F.f5 F.f6) (lineB F) := by
 have hw := wsum_le (kindW_size F hk hs)
 have hwl := kindW_len F hs.2.1
 have hw2 : wsum (kindW F) ≤ 1048577 * 7 := Nat.le_trans hw (Nat.mul_le_mul_left _ hwl)
 have hJ := implJ_ev F (kindW F) (by omega) (by have := hs.1; omega) hs.2.2.2
 obtain ⟨s0, s4, s5, s6⟩ := hs
 unfold impl_fieldLine.f lineB
 refine ev_some ?_
 unfold kindOk at hk
 by_cases c1 : F.f1 = 1
 ·have e : kindW F = [⟨#[110, 117, 109, 98, 101, 114]⟩, numB F.f2, numB F.f3] := by unfold kindW; rw [if_pos c1]
  rw [if_pos c1] at hk
  simp only [Bool.and_eq_true, decide_eq_true_eq] at hk
  rw [e] at hJ ⊢
  exact ev_pos c1 (ev_bind0 (itoaF F.f2 (by omega) (by omega)) (ev_bind0 (itoaF F.f3 (by omega) (by omega)) (ev_some (ev_pos (by simp) hJ))))
 rw [if_neg c1] at hk
 refine ev_neg c1 ?_
 by_cases c2 : F.f1 = 2
 ·have e : kindW F = [⟨#[116, 101, 120, 116]⟩, numB F.f2, numB F.f3] := by unfold kindW; rw [if_neg c1, if_pos c2]
  rw [if_pos c2] at hk
  simp only [Bool.and_eq_true, decide_eq_true_eq] at hk
  rw [e] at hJ ⊢
  exact ev_pos c2 (ev_bind0 (itoaF F.f2 (by omega) (by omega)) (ev_bind0 (itoaF F.f3 (by omega) (by omega)) (ev_some (ev_pos (by simp) hJ))))
 refine ev_neg c2 ?_
 by_cases c3 : F.f1 = 3
 ·have e : kindW F = ⟨#[99, 104, 111, 105, 99, 101]⟩ :: F.f4 := by unfold kindW; rw [if_neg c1, if_neg c2, if_pos c3]
  rw [e] at hJ ⊢
  exact ev_pos c3 (ev_pos (by simp) (ev_some (ev_pos (by simp only [List.length_cons, List.length_append, List.length_nil]; omega) hJ)))
 ·have e : kindW F = [⟨#[102, 108, 97, 103]⟩] := by unfold kindW; rw [if_neg c1, if_neg c2, if_neg c3]
  rw [e] at hJ ⊢
  exact ev_neg c3 (ev_pos (by simp) hJ)
theorem ifW_mem (x : ByteArray) (h : x.size ≤ 1048576) : (ifW x).length ≤ 2 ∧ ∀ s ∈ ifW x, s.size ≤ 1048576 := by
 unfold ifW
 split
 ·exact ⟨by simp, fun _ h => nomatch h⟩
 ·exact ⟨by simp, List.forall_mem_cons.2 ⟨by decide, List.forall_mem_cons.2 ⟨h, fun _ h => nomatch h⟩⟩⟩
theorem needW_mem (b : Bool) : (needW b).length ≤ 1 ∧ ∀ s ∈ needW b, s.size ≤ 1048576 := by
 unfold needW
 split
 ·exact ⟨by simp, List.forall_mem_cons.2 ⟨by decide, fun _ h => nomatch h⟩⟩
 ·exact ⟨by simp, fun _ h => nomatch h⟩
theorem lineB_size (F : Field) (hk : kindOk F = true) (hs : Small F) : (lineB F).size ≤ 20000000 := by
 have hw := wsum_le (kindW_size F hk hs)
 have hw2 := Nat.mul_le_mul_left 1048577 (kindW_len F hs.2.1)
 obtain ⟨a1, a2⟩ := ifW_mem F.f6 hs.2.2.2
 obtain ⟨b1, b2⟩ := needW_mem F.f5
 have a3 := wsum_le a2
 have b3 := wsum_le b2
 have a4 := Nat.mul_le_mul_left 1048577 a1
 have b4 := Nat.mul_le_mul_left 1048577 b1
 have := hs.1
 unfold lineB
 rw [jn_size, wsum_app, wsum_app]
 omega
def isN (x : ByteArray) : Bool := x.toList == ([110, 101, 101, 100, 101, 100] : List UInt8)
def isI (x : ByteArray) : Bool := x.toList == ([105, 102] : List UInt8)
def badF (F : Field) : Bool := F.f4.any isN || F.f4.any isI
theorem good_all (F : Field) : (List.range F.f4.length).all (fun j => !(isN (F.f4.getD j ByteArray.empty)) && !(isI (F.f4.getD j ByteArray.empty))) = !(badF F) := by
 unfold badF
 rw [Bool.eq_iff_iff, all_range, Bool.not_eq_true', Bool.or_eq_false_iff, List.any_eq_false, List.any_eq_false]
 constructor
 ·intro h
  constructor
  ·intro x hx
   obtain ⟨i, hi, rfl⟩ := List.getElem_of_mem hx
   have := h i hi
   rw [getD_in hi] at this
   simp at this
   simp [this.1]
  ·intro x hx
   obtain ⟨i, hi, rfl⟩ := List.getElem_of_mem hx
   have := h i hi
   rw [getD_in hi] at this
   simp at this
   simp [this.2]
 ·rintro ⟨h1, h2⟩ i hi
  rw [getD_in hi]
  have a := h1 _ (List.getElem_mem hi)
  have b := h2 _ (List.getElem_mem hi)
  simp at a b
  simp [a, b]
def linesUp (form : List Field) : Nat → List ByteArray
 | 0 => []
 | i + 1 => linesUp form i ++ [lineB (form.getD i zF)]
theorem linesUp_len (form : List Field) : ∀ i, (linesUp form i).length = i
 | 0 => rfl
 | i + 1 => by rw [linesUp, List.length_append, linesUp_len form i]; rfl
theorem linesUp_get (form : List Field) : ∀ n i, i < n → (linesUp form n).getD i ByteArray.empty = lineB (form.getD i zF)
 | n + 1, i, h => by
  rw [linesUp, List.getD_eq_getElem?_getD]
  by_cases c : i < n
  ·rw [List.getElem?_append_left (by rw [linesUp_len]; exact c), ← List.getD_eq_getElem?_getD]
   exact linesUp_get form n i c
  ·obtain rfl : i = n := by omega
   rw [List.getElem?_append_right (by rw [linesUp_len]; omega), linesUp_len, Nat.sub_self]
   rfl
def textUp (form : List Field) : Nat → ByteArray
 | 0 => ⟨#[]⟩
 | i + 1 => (textUp form i ++ lineB (form.getD i zF)) ++ (⟨#[10]⟩ : ByteArray)
structure FormOk (form : List Field) : Prop where
 len : form.length ≤ 10
 kind : ∀ i, i < form.length → kindOk (form.getD i zF) = true
 small : ∀ i, i < form.length → Small (form.getD i zF)
theorem textUp_size {form : List Field} (V : FormOk form) : ∀ i, i ≤ form.length → (textUp form i).size ≤ 20000001 * i
 | 0, _ => Nat.le_refl _
 | i + 1, h => by
  have h1 := textUp_size V i (by omega)
  have h2 := lineB_size _ (V.kind i (by omega)) (V.small i (by omega))
  have h3 : (⟨#[10]⟩ : ByteArray).size = 1 := rfl
  rw [textUp, ByteArray.size_append, ByteArray.size_append]
  omega
theorem implNl_ev {form : List Field} (V : FormOk form) : Ev (fun k => impl_withNewlines.f k (linesUp form form.length)) (textUp form form.length) := by
 have hlen := V.len
 have hll := linesUp_len form form.length
 have h := ev_all (L := fun k (s : ByteArray) i => impl_withNewlines.l0 k s (linesUp form form.length) ((linesUp form form.length).length : Int) i) form.length (textUp form) (fun _ => true) ⟨#[]⟩ (textUp form form.length) (fun _ => Ev.step (fun k => rfl) (ev_neg (by rw [hll]; omega) (ev_now rfl))) ?h1 (fun i hi _ hc => nomatch hc)
 case h1 =>
  intro i hi _ _ y hy
  have h1 := textUp_size V i (by omega)
  have h2 := lineB_size _ (V.kind i hi) (V.small i hi)
  have h3 : (lineB (form.getD i zF) ++ (⟨#[10]⟩ : ByteArray)).size = (lineB (form.getD i zF)).size + 1 := by rw [ByteArray.size_append]; rfl
  have hr : rdOf ByteArray.empty (linesUp form form.length) (i : Int) = lineB (form.getD i zF) := by unfold rdOf; rw [Int.toNat_natCast, linesUp_get form _ i hi]
  refine Ev.step (fun k => rfl) (ev_pos (by rw [hll]; omega) (ev_pos (by omega) (ev_pos (by rw [hll]; omega) (ev_pos (by rw [hr]; omega) (ev_pos (by rw [hr, h3]; omega) ?_)))))
  rw [hr, wrap_succ hi (by omega), ← ByteArray.append_assoc]
  exact hy
 rw [if_pos (by rw [all_range]; intro i hi; rfl)] at h
 exact h
def allGood (form : List Field) : Bool := (List.range form.length).all (fun i => !(badF (form.getD i zF)))
def fmtB (form : List Field) : ByteArray × Bool := if allGood form = true then (textUp form form.length, true) else (⟨#[]⟩, false)
theorem implFmt_ev {form : List Field} (V : FormOk form) : Ev (fun k => impl_FormatForm.l0 k ([] : List ByteArray) form (form.length : Int) 0) (fmtB form) := by
 have hlen := V.len
 refine ev_all (L := fun k (s : List ByteArray) i => impl_FormatForm.l0 k s form (form.length : Int) i) form.length (linesUp form) (fun i => !(badF (form.getD i zF))) (⟨#[]⟩, false) (textUp form form.length, true) (fun _ => Ev.step (fun k => rfl) (ev_neg (by omega) (Ev.bind (implNl_ev V) (ev_now rfl)))) ?h1 ?h2
 case h1 =>
  intro i hi _ hc y hy
  have hk := V.kind i hi
  have hs := V.small i hi
  have hll := linesUp_len form i
  have hrd : rd_T54 form (i : Int) = form.getD i zF := by unfold rd_T54; rw [Int.toNat_natCast]
  rw [linesUp] at hy
  generalize hF : form.getD i zF = F at *
  have c1 := slicesContainsStr_ev F.f4 (⟨#[110, 101, 101, 100, 101, 100]⟩ : ByteArray) (by have := hs.2.1; omega)
  have c2 := slicesContainsStr_ev F.f4 (⟨#[105, 102]⟩ : ByteArray) (by have := hs.2.1; omega)
  unfold badF at hc
  simp only [Bool.not_eq_true', Bool.or_eq_false_iff] at hc
  refine Ev.step (fun k => rfl) (ev_pos (by omega) (ev_pos (by omega) (ev_pos (by omega) ?_)))
  rw [hrd]
  rw [show (F.f4.any fun x => x.toList == (⟨#[110, 101, 101, 100, 101, 100]⟩ : ByteArray).toList) = false from by rw [Lib.toList_data]; exact hc.1] at c1
  rw [show (F.f4.any fun x => x.toList == (⟨#[105, 102]⟩ : ByteArray).toList) = false from by rw [Lib.toList_data]; exact hc.2] at c2
  refine Ev.bind c1 (ev_neg (by simp) (Ev.bind c2 (ev_neg (by simp) (Ev.bind (implLine_ev F hk hs) (ev_pos (by omega) ?_)))))
  rw [wrap_succ hi (by omega)]
  exact hy
 case h2 =>
  intro i hi _ hc
  have hs := V.small i hi
  have hrd : rd_T54 form (i : Int) = form.getD i zF := by unfold rd_T54; rw [Int.toNat_natCast]
  generalize hF : form.getD i zF = F at *
  have c1 := slicesContainsStr_ev F.f4 (⟨#[110, 101, 101, 100, 101, 100]⟩ : ByteArray) (by have := hs.2.1; omega)
  have c2 := slicesContainsStr_ev F.f4 (⟨#[105, 102]⟩ : ByteArray) (by have := hs.2.1; omega)
  rw [show (F.f4.any fun x => x.toList == (⟨#[110, 101, 101, 100, 101, 100]⟩ : ByteArray).toList) = F.f4.any isN from by rw [Lib.toList_data]; rfl] at c1
  rw [show (F.f4.any fun x => x.toList == (⟨#[105, 102]⟩ : ByteArray).toList) = F.f4.any isI from by rw [Lib.toList_data]; rfl] at c2
  unfold badF at hc
  refine Ev.step (fun k => rfl) (ev_pos (by omega) (ev_pos (by omega) (ev_pos (by omega) ?_)))
  rw [hrd]
  cases hn : F.f4.any isN
  ·rw [hn] at c1 hc
   cases hi2 : F.f4.any isI
   ·rw [hi2] at hc; simp at hc
   ·rw [hi2] at c2
    exact Ev.bind c1 (ev_neg (by simp) (Ev.bind c2 (ev_pos rfl (ev_now rfl))))
  ·rw [hn] at c1
   exact Ev.bind c1 (ev_pos rfl (ev_now rfl))
theorem specFmt_ev {form : List Field} (V : FormOk form) : Ev (fun k => spec_l23Lines.f k form) (fmtB form) := by
 have hlen := V.len
 have inner : ∀ i, i < form.length → ∀ (s : ByteArray) y, ((!(badF (form.getD i zF))) = true → Ev (fun k => (spec_l23Line.f k (form.getD i zF).f0 (form.getD i zF).f1 (form.getD i zF).f2 (form.getD i zF).f3 (form.getD i zF).f4 (form.getD i zF).f5 (form.getD i zF).f6).bind fun t107 => (if s.size + t107.size ≤ 9223372036854775807 then (if (s ++ t107).size + 1 ≤ 9223372036854775807 then (spec_l23Lines.l0 k form ((s ++ t107) ++ (⟨#[10]⟩ : ByteArray)) (wrap64 ((i : Int) + 1))) else (none)) else (none))) y) →
   Ev (fun k => spec_l23Lines.l1 k form s i 0) (if (!(badF (form.getD i zF))) = true then y else (⟨#[]⟩, false)) := by
  intro i hi s y hy
  have hs := V.small i hi
  have hrd : rd_T54 form (i : Int) = form.getD i zF := by unfold rd_T54; rw [Int.toNat_natCast]
  rw [← good_all] at hy ⊢
  generalize hF : form.getD i zF = F at *
  have h4 := hs.2.1
  refine ev_all0 (L := fun k j => spec_l23Lines.l1 k form s i j) F.f4.length _ (⟨#[]⟩, false) y ?_ ?_ ?_
  ·intro hC
   have hy := hy (by rw [all_range]; exact hC)
   refine Ev.step (fun k => rfl) (ev_pos (by omega) (ev_pos (by omega) ?_))
   rw [hrd]
   exact ev_neg (by omega) hy
  ·intro j hj _ hc y hy
   simp only [isN, isI, Bool.and_eq_true, Bool.not_eq_true', beq_eq_false_iff_ne] at hc
   have hr : rdOf ByteArray.empty F.f4 (j : Int) = F.f4.getD j ByteArray.empty := by unfold rdOf; rw [Int.toNat_natCast]
   refine Ev.step (fun k => rfl) (ev_pos (by omega) (ev_pos (by omega) ?_))
   rw [hrd]
   refine ev_pos (by omega) (ev_pos (by omega) (ev_neg (by rw [hr]; exact hc.1) (ev_neg (by rw [hr]; exact hc.2) ?_)))
   rw [wrap_succ hj (by omega)]
   exact hy
  ·intro j hj _ hc
   have hr : rdOf ByteArray.empty F.f4 (j : Int) = F.f4.getD j ByteArray.empty := by unfold rdOf; rw [Int.toNat_natCast]
   refine Ev.step (fun k => rfl) (ev_pos (by omega) (ev_pos (by omega) ?_))
   rw [hrd]
   refine ev_pos (by omega) (ev_pos (by omega) (ev_ite (fun _ => ev_now rfl) (fun c => ev_pos ?_ (ev_now rfl))))
   rw [hr] at c ⊢
   simp only [isN, isI, Bool.and_eq_false_iff, Bool.not_eq_false', beq_iff_eq] at hc
   exact hc.resolve_left c
 refine ev_all (L := fun k (s : ByteArray) i => spec_l23Lines.l0 k form s i) form.length (textUp form) (fun i => !(badF (form.getD i zF))) (⟨#[]⟩, false) (textUp form form.length, true) (fun _ => Ev.step (fun k => rfl) (ev_neg (by omega) (ev_now rfl))) ?h1 ?h2
 case h1 =>
  intro i hi _ hc y hy
  have h1 := textUp_size V i (by omega)
  have h2 := lineB_size _ (V.kind i hi) (V.small i hi)
  have hin := inner i hi (textUp form i) y (fun _ => ?_)
  ·rw [if_pos hc] at hin
   exact Ev.step (fun k => rfl) (ev_pos (by omega) hin)
  ·refine Ev.bind (specLine_ev _ (V.kind i hi) (V.small i hi)) (ev_pos (by omega) (ev_pos (by rw [ByteArray.size_append]; omega) ?_))
   rw [wrap_succ hi (by omega)]
   exact hy
 case h2 =>
  intro i hi _ hc
  have hin := inner i hi (textUp form i) (⟨#[]⟩, false) (fun h => by rw [hc] at h; cases h)
  rw [if_neg (by rw [hc]; simp)] at hin
  exact Ev.step (fun k => rfl) (ev_pos (by omega) hin)
end Go.Proofs.YtiaiohoadefgjaaDoor.X
set_option linter.unusedVariables false
set_option linter.unusedSimpArgs false
namespace Go.Proofs.YtiaiohoadefgjaaDoor.X
open Go.RowKit Go.Proofs.YtiaiohoadefgjaaDoorW.PrintWords Go.Proofs.YtiaiohoadefgjaaDoor.E
theorem wsum_le21 {ws : List ByteArray} (h : ∀ s ∈ ws, s.size ≤ 21) : wsum ws ≤ 22 * ws.length := by
 induction ws with
 | nil => exact Nat.le_refl _
 | cons x l ih =>
  have h1 := h x (List.mem_cons_self ..)
  have h2 := ih (fun s hs => h s (List.mem_cons_of_mem _ hs))
  have e : wsum (x :: l) = (x.size + 1) + wsum l := by simp [wsum]
  rw [e, List.length_cons]
  omega
theorem kindW_good {F : Field} (h : GoodF 5 F) : (kindW F).length ≤ 6 ∧ ∀ s ∈ kindW F, s.size ≤ 21 := by
 obtain ⟨g0, g4, g5, g6, g2, g3⟩ := h
 have n2 := numB_size F.f2 (by omega) (by omega)
 have n3 := numB_size F.f3 (by omega) (by omega)
 unfold kindW
 split
 ·refine ⟨by simp, fun s hs => ?_⟩
  simp only [List.mem_cons, List.not_mem_nil, or_false] at hs
  rcases hs with rfl | rfl | rfl
  ·decide
  ·exact n2
  ·exact n3
 ·split
  ·refine ⟨by simp, fun s hs => ?_⟩
   simp only [List.mem_cons, List.not_mem_nil, or_false] at hs
   rcases hs with rfl | rfl | rfl
   ·decide
   ·exact n2
   ·exact n3
  ·split
   ·refine ⟨by rw [List.length_cons]; omega, fun s hs => ?_⟩
    rcases List.mem_cons.1 hs with rfl | h1
    ·decide
    ·exact Nat.le_trans (g5 s h1) (by decide)
   ·refine ⟨by simp, fun s hs => ?_⟩
    rw [List.mem_singleton.1 hs]; decide
theorem lineB_good {F : Field} (h : GoodF 5 F) : (lineB F).size ≤ 250 := by
 obtain ⟨k1, k2⟩ := kindW_good h
 have hw : (needW F.f5).length ≤ 1 ∧ ∀ s ∈ needW F.f5, s.size ≤ 21 := by
  unfold needW
  split
  ·exact ⟨by simp, fun s hs => by rw [List.mem_singleton.1 hs]; decide⟩
  ·exact ⟨by simp, by simp⟩
 have hi : (ifW F.f6).length ≤ 2 ∧ ∀ s ∈ ifW F.f6, s.size ≤ 21 := by
  unfold ifW
  split
  ·exact ⟨by simp, by simp⟩
  ·refine ⟨by simp, fun s hs => ?_⟩
   simp only [List.mem_cons, List.not_mem_nil, or_false] at hs
   rcases hs with rfl | rfl
   ·decide
   ·exact Nat.le_trans h.2.2.2.1 (by decide)
 have a := wsum_le21 k2
 have b := wsum_le21 hw.2
 have c := wsum_le21 hi.2
 unfold lineB
 rw [jn_size, wsum_app, wsum_app]
 have := h.1
 omega
theorem specLine_any (F : Field) (hg : GoodF 5 F) : Ev (fun k => spec_l23Line.f k F.f0 F.f1 F.f2 F.f3 F.f4 F.f5 F.f6) (lineB F) := by
 obtain ⟨s0, s4, s5, s6, g2, g3⟩ := hg
 have s6' : F.f6.size ≤ 1048576 := by omega
 have z1 : ∀ t : ByteArray, (t ++ (⟨#[32]⟩ : ByteArray)).size = t.size + 1 := fun t => by rw [ByteArray.size_append]; rfl
 have n2 := numB_size F.f2 (by omega) (by omega)
 have n3 := numB_size F.f3 (by omega) (by omega)
 unfold spec_l23Line.f lineB kindW
 by_cases c1 : F.f1 = 1
 ·rw [if_pos c1]
  have z8 : (F.f0 ++ (⟨#[32, 110, 117, 109, 98, 101, 114, 32]⟩ : ByteArray)).size = F.f0.size + 8 := by rw [ByteArray.size_append]; rfl
  have e := two_words F.f0 (⟨#[110, 117, 109, 98, 101, 114]⟩ : ByteArray) (⟨#[32, 110, 117, 109, 98, 101, 114, 32]⟩ : ByteArray) rfl (numB F.f2) (numB F.f3)
  refine ev_pos c1 (ev_pos (by omega) (Ev.bind (l1Num_ev F.f2 (by omega) (by omega)) (ev_pos (by omega) (ev_pos (by rw [ByteArray.size_append]; omega) (Ev.bind (l1Num_ev F.f3 (by omega) (by omega)) (ev_pos (by rw [z1, ByteArray.size_append]; omega) ?_))))))
  rw [← jn_app, ← e]
  exact ev_of (tail_eq _ F.f5 F.f6 (by rw [ByteArray.size_append, z1, ByteArray.size_append]; omega) s6')
 rw [if_neg c1]
 refine ev_neg c1 ?_
 by_cases c2 : F.f1 = 2
 ·rw [if_pos c2]
  have z6 : (F.f0 ++ (⟨#[32, 116, 101, 120, 116, 32]⟩ : ByteArray)).size = F.f0.size + 6 := by rw [ByteArray.size_append]; rfl
  have e := two_words F.f0 (⟨#[116, 101, 120, 116]⟩ : ByteArray) (⟨#[32, 116, 101, 120, 116, 32]⟩ : ByteArray) rfl (numB F.f2) (numB F.f3)
  refine ev_pos c2 (ev_pos (by omega) (Ev.bind (l1Num_ev F.f2 (by omega) (by omega)) (ev_pos (by omega) (ev_pos (by rw [ByteArray.size_append]; omega) (Ev.bind (l1Num_ev F.f3 (by omega) (by omega)) (ev_pos (by rw [z1, ByteArray.size_append]; omega) ?_))))))
  rw [← jn_app, ← e]
  exact ev_of (tail_eq _ F.f5 F.f6 (by rw [ByteArray.size_append, z1, ByteArray.size_append]; omega) s6')
 rw [if_neg c2]
 refine ev_neg c2 ?_
 by_cases c3 : F.f1 = 3
 ·rw [if_pos c3]
  refine ev_pos c3 (ev_pos (by omega) ?_)
  have z7 : (F.f0 ++ (⟨#[32, 99, 104, 111, 105, 99, 101]⟩ : ByteArray)).size = F.f0.size + 7 := by rw [ByteArray.size_append]; rfl
  have e : F.f0 ++ (⟨#[32, 99, 104, 111, 105, 99, 101]⟩ : ByteArray) = jn F.f0 [⟨#[99, 104, 111, 105, 99, 101]⟩] := by
   show _ = (F.f0 ++ (⟨#[32]⟩ : ByteArray)) ++ (⟨#[99, 104, 111, 105, 99, 101]⟩ : ByteArray)
   rw [ByteArray.append_assoc]; rfl
  have hL := ev_scan0 (L := fun k (s : ByteArray) i => spec_l23Line.l0 k s i F.f0 F.f1 F.f2 F.f3 F.f4 F.f5 F.f6) (G := fun s i (r : List ByteArray) => jn (jn s r) (needW F.f5 ++ ifW F.f6)) (fun s i r => s.size ≤ 2000000 + 1048577 * i) F.f4 (F.f0 ++ (⟨#[32, 99, 104, 111, 105, 99, 101]⟩ : ByteArray)) (by rw [z7]; omega) ?h1 ?h2
  case h1 =>
   intro s hI
   refine Ev.step (fun k => rfl) (ev_neg (by omega) (ev_of (tail_eq s F.f5 F.f6 (by omega) s6')))
  case h2 =>
   intro s i x r hI hi hd hx hgo
   have hxs : x.size ≤ 10 := by rw [← hx ByteArray.empty, getD_in hi]; exact s5 _ (List.getElem_mem _)
   have hr : rdOf ByteArray.empty F.f4 (i : Int) = x := by unfold rdOf; rw [Int.toNat_natCast]; exact hx _
   refine Ev.step (fun k => rfl) (ev_pos (by omega) (ev_pos (by omega) (ev_pos (by omega) (ev_pos (by rw [hr, z1]; omega) ?_))))
   rw [hr, wrap_succ hi (by omega)]
   exact hgo _ (by rw [ByteArray.size_append, z1]; omega)
  refine ev_cast hL ?_
  rw [e, jn_app, jn_app]
  rfl
 rw [if_neg c3]
 refine ev_neg c3 (ev_pos (by omega) ?_)
 have z5 : (F.f0 ++ (⟨#[32, 102, 108, 97, 103]⟩ : ByteArray)).size = F.f0.size + 5 := by rw [ByteArray.size_append]; rfl
 have e : F.f0 ++ (⟨#[32, 102, 108, 97, 103]⟩ : ByteArray) = jn F.f0 [⟨#[102, 108, 97, 103]⟩] := by
  show _ = (F.f0 ++ (⟨#[32]⟩ : ByteArray)) ++ (⟨#[102, 108, 97, 103]⟩ : ByteArray)
  rw [ByteArray.append_assoc]; rfl
 rw [← jn_app, ← e]
 exact ev_of (tail_eq _ F.f5 F.f6 (by rw [z5]; omega) s6')
theorem linesIn {form : List Field} (hl : form.length ≤ 6) (hg : ∀ f ∈ form, GoodF 5 f) (s : ByteArray) (i : Nat) (hi : i < form.length) (hs : s.size ≤ 260 * i) {B : Nat}
  (hn : ∀ s' : ByteArray, s'.size ≤ 260 * (i + 1) → ∃ t b, Ev (fun k => spec_l23Lines.l0 k form s' ((i + 1 : Nat) : Int)) (t, b) ∧ t.size ≤ B) :
  ∀ (d j : Nat), (rd_T54 form (i : Int)).f4.length = j + d → ∃ t b, Ev (fun k => spec_l23Lines.l1 k form s (i : Int) (j : Int)) (t, b) ∧ t.size ≤ B := by
 have G := rdF_good hg (i := (i : Int)) (by omega) (by omega)
 have hL := specLine_any _ G
 have hz := lineB_good G
 have h4 := G.2.1
 have hone : (⟨#[10]⟩ : ByteArray).size = 1 := rfl
 have hnz : (⟨#[]⟩ : ByteArray).size = 0 := rfl
 intro d
 induction d with
 | zero =>
  intro j hj
  have e1 : (s ++ lineB (rd_T54 form (i : Int))).size = s.size + (lineB (rd_T54 form (i : Int))).size := ByteArray.size_append
  obtain ⟨t, b, h1, h2⟩ := hn ((s ++ lineB (rd_T54 form (i : Int))) ++ (⟨#[10]⟩ : ByteArray)) (by rw [ByteArray.size_append]; omega)
  refine ⟨t, b, Ev.step (fun k => rfl) (ev_pos (by omega) (ev_pos (by omega) (ev_neg (by omega) (Ev.bind hL (ev_pos (by omega) (ev_pos (by omega) ?_)))))), h2⟩
  rw [wrap_succ hi (by omega)]
  exact h1
 | succ d ih =>
  intro j hj
  obtain ⟨t, b, h1, h2⟩ := ih (j + 1) (by omega)
  by_cases a1 : (rdOf ByteArray.empty ((rd_T54 form (i : Int)).f4) (j : Int)).toList = ([110, 101, 101, 100, 101, 100] : List UInt8)
  ·exact ⟨_, false, Ev.step (fun k => rfl) (ev_pos (by omega) (ev_pos (by omega) (ev_pos (by omega) (ev_pos (by omega) (ev_pos a1 (ev_now rfl)))))), by rw [hnz]; omega⟩
  by_cases a2 : (rdOf ByteArray.empty ((rd_T54 form (i : Int)).f4) (j : Int)).toList = ([105, 102] : List UInt8)
  ·exact ⟨_, false, Ev.step (fun k => rfl) (ev_pos (by omega) (ev_pos (by omega) (ev_pos (by omega) (ev_pos (by omega) (ev_neg a1 (ev_pos a2 (ev_now rfl))))))), by rw [hnz]; omega⟩
  refine ⟨t, b, Ev.step (fun k => rfl) (ev_pos (by omega) (ev_pos (by omega) (ev_pos (by omega) (ev_pos (by omega) (ev_neg a1 (ev_neg a2 ?_)))))), h2⟩
  rw [show wrap64 ((j : Int) + 1) = ((j + 1 : Nat) : Int) by rw [wrap_id (by omega) (by omega)]; omega]
  exact h1
theorem lines_tot {form : List Field} (hl : form.length ≤ 6) (hg : ∀ f ∈ form, GoodF 5 f) : ∃ t b, Ev (fun k => spec_l23Lines.f k form) (t, b) ∧ t.size ≤ 1560 := by
 have hrun : ∀ (d i : Nat) (s : ByteArray), form.length = i + d → s.size ≤ 260 * i → ∃ t b, Ev (fun k => spec_l23Lines.l0 k form s (i : Int)) (t, b) ∧ t.size ≤ 1560 := by
  intro d
  induction d with
  | zero =>
   intro i s hi hs
   exact ⟨s, true, Ev.step (fun k => rfl) (ev_neg (by omega) (ev_now rfl)), by omega⟩
  | succ d ih =>
   intro i s hi hs
   obtain ⟨t, b, h1, h2⟩ := linesIn hl hg s i (by omega) hs (B := 1560) (fun s' hs' => ih (i + 1) s' (by omega) hs') _ 0 (Nat.zero_add _).symm
   exact ⟨t, b, Ev.step (fun k => rfl) (ev_pos (by omega) h1), h2⟩
 obtain ⟨t, b, h1, h2⟩ := hrun form.length 0 (⟨#[]⟩ : ByteArray) (by omega) (by show (⟨#[]⟩ : ByteArray).size ≤ _; exact Nat.zero_le _)
 exact ⟨t, b, h1, h2⟩
end Go.Proofs.YtiaiohoadefgjaaDoor.X
namespace Go.Proofs.YtiaiohoadefgjaaDoor.X
open Go.RowKit Go.Proofs.YtiaiohoadefgjaaDoorW.PrintWords Go.Proofs.YtiaiohoadefgjaaDoorW.PrintLast Go.Proofs.YtiaiohoadefgjaaDoorW.PrintMore
attribute [local go_sem] max2_int min2_int max_two min_two max_three min_three max_four min_four
set_option linter.unusedVariables false
set_option linter.unusedSimpArgs false
attribute [-simp] ByteArray.size_append ByteArray.size_extract
attribute [-go_sem] ByteArray.size_append'
/-! ### spec_l1Read: function 96 -/
mutual
def spec_l1Read.j0 : Nat → ByteArray → ByteArray → Bool → Option (Int × Bool)
 | 0, _, _, _ => none
 | k + 1, x0, x4, x15 => if x15 = true then (if 1 ≤ (x4.size : Int) then (spec_l1Read.j1 k x0 (x4.extract 1 x4.size)) else (none)) else (spec_l1Read.j1 k x0 x4)
def spec_l1Read.j1 : Nat → ByteArray → ByteArray → Option (Int × Bool)
 | 0, _, _ => none
 | k + 1, x0, x4 => (spec_l1In.f (x4.size : Int) 1 6).bind fun t101 => (if t101 = true then (spec_l1Read.l0 k x0 x4 0 0) else (some (0, false)))
def spec_l1Read.l0 : Nat → ByteArray → ByteArray → Int → Int → Option (Int × Bool)
 | 0, _, _, _, _ => none
 | k + 1, x0, x4, x5, x6 => if x6 < (x4.size : Int) then (if 0 ≤ x6 then (if (bt x4 x6) < 48 then (some (0, false)) else (if (bt x4 x6) > 57 then (some (0, false)) else (spec_l1Read.l0 k x0 x4 (wrap64 ((wrap64 (10 * x5)) + (((bt x4 x6) - 48) % 256))) (wrap64 (x6 + 1))))) else (none)) else (if (x4.size : Int) < (x0.size : Int) then ((spec_l1Num.f k (wrap64 (-x5))).bind fun t102 => (if t102.toList = x0.toList then (some (wrap64 (-x5), true)) else (some (0, false)))) else ((spec_l1Num.f k x5).bind fun t103 => (if t103.toList = x0.toList then (some (x5, true)) else (some (0, false)))))
end
def spec_l1Read.f (k : Nat) (a0 : ByteArray) : Option (Int × Bool) := if (a0.size : Int) > 1 then (if 0 < (a0.size : Int) then (spec_l1Read.j0 k a0 a0 ((bt a0 0) == 45)) else (none)) else (spec_l1Read.j0 k a0 a0 false)
set_option maxHeartbeats 8000000 in
set_option maxRecDepth 100000 in
theorem spec_l1Read.calls (k : Nat) (a0 : ByteArray) (r1 : Int) (r2 : Bool) (w : World) (h : spec_l1Read.f k a0 = some (r1, r2)) :
  Calls Tryd.prog 96 #[.string a0] w fun e w' => e = .returned (.tuple #[.int .i64 r1, .bool r2]) ∧ Below w.heap.size w w' := by
 (have HB := Aside0.mk (Below.refl w.heap.size w)); (unfold spec_l1Read.f at h); (have H := h); clear h; (have HC2 := Aside0.mk H); clear H; (go_enter Tryd.func96, Tryd.ntmps96); (go_upto_region 2 with (fail)); (go_cut [15] (fun v15 wc => ∃ (kq : Nat) (x15_1 : Bool), v15 = .bool x15_1 ∧ Aside0 (spec_l1Read.j0 kq a0 a0 x15_1 = some (r1, r2)) ∧ Aside0 (kq ≤ k) ∧ Aside0 (Below w.heap.size w wc)))
 case first =>
  (have H := HC2.out); clear HC2; (by_cases c3 : (a0.size : Int) > 1)
  ·rw [if_pos c3] at H
   (have c3b0 : decide (1 < (a0.size : Int)) = true := decide_eq_true c3); (have c3b1 : decide (1 < a0.size) = true := decide_eq_true (by omega)); clear c3; ((first | rw [c3b0] | (simp only [i64_w, i32_w]; rw [c3b0]) | skip)); (by_cases c4 : 0 < (a0.size : Int))
   ·rw [if_pos c4] at H
    (have c4b0 := decide_eq_true c4); (have c4b1 : decide (0 < a0.size) = true := decide_eq_true (by omega)); clear c4; (have H' := Aside0.mk H); clear H; (have p5 : 0 ≤ (0 : Int) := (by omega)); (have q5 : 0 < a0.size := Q18); (have hx5 : ∀ h : 0 < a0.size, ((a0[0]'h).toNat : Int) = bt a0 0 := bt_at a0 0); clear p5; (have qi5 : (0 < (a0.size : Int)) = True := eq_true odt); (replace q5 := eq_true q5); (go_wp2); (go_meet)
    case rel => exact ⟨_, (((bt a0 0) == 45)), Q5, H', ⟨Q6⟩, ⟨eI HB⟩⟩
   ·rw [if_neg c4] at H
    exact Q3
  ·rw [if_neg c3] at H
   (have c3b0 : decide (1 < (a0.size : Int)) = false := decide_eq_false c3); (have c3b1 : decide (1 < a0.size) = false := decide_eq_false (by omega)); clear c3; ((first | rw [c3b0] | (simp only [i64_w, i32_w]; rw [c3b0]) | skip)); (have H' := Aside0.mk H); clear H; (go_wp2); (go_meet)
   case rel => exact ⟨_, (false), Q5, H', ⟨Q6⟩, ⟨eI HB⟩⟩
 case rest =>
  clear HC2; (try clear p2); (try clear c3); (try clear c3b0); (try clear c3b1); (try clear c4); (try clear c4b0); (try clear c4b1); (try clear p5); (try clear q5); (try clear hx5); (try clear qi5); (try clear p5); (try clear q5); (obtain ⟨kq, x15_1, rfl, HA, HJ1, HB⟩ := hcut)
  cases kq with
  | zero => exact absurd HA.out (by simp [spec_l1Read.j0])
  | succ kj1 =>
   (have H := HA.out); clear HA; (simp only [spec_l1Read.j0] at H); (have HC6 := Aside0.mk H); clear H; (go_upto_if 15 with (fail)); (go_cut [4] (fun v4 wc => ∃ (kq : Nat) (x4_5 : ByteArray), v4 = .string x4_5 ∧ Aside0 (spec_l1Read.j1 kq a0 x4_5 = some (r1, r2)) ∧ Aside0 (kq ≤ kj1) ∧ Aside0 (Below w.heap.size w wc)))
   case first =>
    (have H := HC6.out); clear HC6; (by_cases c7 : x15_1 = true)
    ·subst c7
     (rw [if_pos rfl] at H); (by_cases c8 : 1 ≤ (a0.size : Int))
     ·rw [if_pos c8] at H
      (have c8b0 := eq_true c8); (have c8b1 := decide_eq_true c8); clear c8; (have H' := Aside0.mk H); clear H; (go_wp2); (go_meet)
      case rel => exact ⟨_, (a0.extract 1 a0.size), Q5, H', ⟨by have := HJ1.out; first | omega | exact Q85⟩, ⟨eI HB⟩⟩
     ·rw [if_neg c8] at H
      exact Q3
    ·replace c7 := Bool.eq_false_iff.mpr c7
     subst c7; (rw [if_neg (show ¬ (false = true) by decide)] at H); (have H' := Aside0.mk H); clear H; (go_wp2); (go_meet)
     case rel => exact ⟨_, (a0), Q5, H', ⟨by have := HJ1.out; first | omega | exact Q85⟩, ⟨eI HB⟩⟩
   case rest =>
    clear HC6; (try clear p2); (try clear c3); (try clear c3b0); (try clear c3b1); (try clear c4); (try clear c4b0); (try clear c4b1); (try clear p5); (try clear q5); (try clear hx5); (try clear qi5); (try clear c7); (try clear c8); (try clear c8b0); (try clear c8b1); (try clear p2); (try clear p5); (try clear q5); (obtain ⟨kq, x4_5, rfl, HA, HJ5, HB⟩ := hcut)
    cases kq with
    | zero => exact absurd HA.out (by simp [spec_l1Read.j1])
    | succ kj5 =>
     (have H := HA.out); clear HA; (simp only [spec_l1Read.j1] at H); (replace H := obS H); (obtain ⟨t101, A9, H⟩ := H); (by_cases c10 : t101 = true)
     ·subst c10
      (rw [if_pos rfl] at H); (have H' := Aside0.mk H); clear H; (go_wp2_with (first | ((with_reducible refine gate_callee (f := 82) rfl ?_); refine gL (some 20) Tryd.func82 #[.int .i64 (x4_5.size : Int), .int .i64 1, .int .i64 6] ?_; (with_reducible refine (spec_l1In.calls (x4_5.size : Int) 1 6 true _ A9.out).mono ?_); rintro e w' ⟨rfl, ⟨nd, rfl⟩⟩; refine ⟨_, rfl, ?_⟩))); (go_loopg [5, 6] kj5 (fun kq v5 v6 w' => ∃ (x5_3 : Int) (x6_3 : Int), v5 = .int .i64 x5_3 ∧ v6 = .int .i64 x6_3 ∧ Aside0 (spec_l1Read.l0 kq a0 x4_5 x5_3 x6_3 = some (r1, r2)) ∧ Aside0 (kq ≤ kj5) ∧ Aside0 (Below w.heap.size w w')))
      case atStart => exact ⟨(0), (0), Q5, Q5, H', ⟨Nat.le_refl _⟩, ⟨eI HB⟩⟩
      case round =>
       (clear H'); (try clear c1); (try clear p2); (try clear c3); (try clear c3b0); (try clear c3b1); (try clear c4); (try clear c4b0); (try clear c4b1); (try clear p5); (try clear q5); (try clear hx5); (try clear qi5); (try clear c7); (try clear c8); (try clear c8b0); (try clear c8b1); (try clear c9); (try clear c10); (try clear p2); (try clear p5); (try clear q5); (obtain ⟨x5_3, x6_3, rfl, rfl, HA, HK3, HB⟩ := hrel)
       cases gk with
       | zero => exact absurd HA.out (by simp [spec_l1Read.l0])
       | succ k3 =>
        (have H := HA.out); clear HA; (simp only [spec_l1Read.l0] at H); (by_cases c11 : x6_3 < (x4_5.size : Int))
        ·rw [if_pos c11] at H
         (have c11b0 := decide_eq_true c11); clear c11; (by_cases c12 : 0 ≤ x6_3)
         ·rw [if_pos c12] at H
          (have c12b0 := decide_eq_true c12); clear c12; (by_cases c14 : (bt x4_5 x6_3) < 48)
          ·rw [if_pos c14] at H
           (have c14b0 := decide_eq_true c14); clear c14; (simp only [Option.some.injEq, Prod.mk.injEq] at H); (obtain ⟨rfl, rfl⟩ := H); (have p13 : 0 ≤ (x6_3 : Int) := odt); (have q13 : x6_3 < (x4_5.size : Int) := odt); (have hx13 := bt_at x4_5 x6_3); (replace p13 := eq_true p13); (replace q13 := eq_true q13); (go_wp2); (go_ret2); (exact Q7)
          ·rw [if_neg c14] at H
           (have c14b0 := decide_eq_false c14); clear c14; (by_cases c16 : (bt x4_5 x6_3) > 57)
           ·rw [if_pos c16] at H
            (have c16b0 : decide (57 < (bt x4_5 x6_3)) = true := decide_eq_true c16); clear c16; (simp only [Option.some.injEq, Prod.mk.injEq] at H); (obtain ⟨rfl, rfl⟩ := H); (have p13 : 0 ≤ (x6_3 : Int) := odt); (have q13 : x6_3 < (x4_5.size : Int) := odt); (have hx13 := bt_at x4_5 x6_3); (replace p13 := eq_true p13); (replace q13 := eq_true q13); (have p15 : 0 ≤ (x6_3 : Int) := odt); (have q15 : x6_3 < (x4_5.size : Int) := odt); (have hx15 := bt_at x4_5 x6_3); (replace p15 := eq_true p15); (replace q15 := eq_true q15); (go_wp2); (go_ret2); (exact Q7)
           ·rw [if_neg c16] at H
            (have c16b0 : decide (57 < (bt x4_5 x6_3)) = false := decide_eq_false c16); clear c16; (have H' := Aside0.mk H); clear H; (have p13 : 0 ≤ (x6_3 : Int) := odt); (have q13 : x6_3 < (x4_5.size : Int) := odt); (have hx13 := bt_at x4_5 x6_3); (replace p13 := eq_true p13); (replace q13 := eq_true q13); (have p15 : 0 ≤ (x6_3 : Int) := odt); (have q15 : x6_3 < (x4_5.size : Int) := odt); (have hx15 := bt_at x4_5 x6_3); (replace p15 := eq_true p15); (replace q15 := eq_true q15); (have p17 : 0 ≤ (x6_3 : Int) := odt); (have q17 : x6_3 < (x4_5.size : Int) := odt); (have hx17 := bt_at x4_5 x6_3); (replace p17 := eq_true p17); (replace q17 := eq_true q17); (go_wp2); go_roundg k3
            case measure => have := HJ1.out; have := HJ5.out; have := HK3.out; omega
            case rel => exact ⟨(wrap64 ((wrap64 (10 * x5_3)) + (((bt x4_5 x6_3) - 48) % 256))), (wrap64 (x6_3 + 1)), Q5, Q5, H', ⟨by have := HJ1.out; have := HJ5.out; have := HK3.out; omega⟩, ⟨eI HB⟩⟩
         ·rw [if_neg c12] at H
          exact Q3
        ·rw [if_neg c11] at H
         (have c11b0 := decide_eq_false c11); clear c11; (by_cases c18 : (x4_5.size : Int) < (a0.size : Int))
         ·rw [if_pos c18] at H
          (have c18b0 := decide_eq_true c18); (have c18b1 : decide (x4_5.size < a0.size) = true := decide_eq_true (Int.ofNat_lt.mp c18)); clear c18; (replace H := obS H); (obtain ⟨t102, A19, H⟩ := H); (by_cases c20 : t102.toList = a0.toList); (· (rw [if_pos c20] at H); (have c20b0 : (t102.toList == a0.toList) = true := beq_iff_eq.mpr c20); (have c20b1 : (t102.toList != a0.toList) = false := bne_eq_false_iff_eq.mpr c20); clear c20; (simp only [Option.some.injEq, Prod.mk.injEq] at H); (obtain ⟨rfl, rfl⟩ := H); (go_wp2_with (first | ((with_reducible refine gate_callee (f := 84) rfl ?_); refine gL (some 54) Tryd.func84 #[.int .i64 (wrap64 (-x5_3))] ?_; (with_reducible refine (spec_l1Num.calls k3 (wrap64 (-x5_3)) t102 _ A19.out).mono ?_); rintro e w21 ⟨rfl, hb⟩; refine ⟨_, rfl, ?_⟩; have n0_ := Aside0.mk (sI hb HB); clear HB; have HB := n0_; clear n0_; (try clear hb); (try clear hb2); (try clear hk); (try clear hi)))); (go_ret2); (exact Q7)); (· (rw [if_neg c20] at H); (have c20b0 : (t102.toList == a0.toList) = false := beq_eq_false_iff_ne.mpr c20); (have c20b1 : (t102.toList != a0.toList) = true := bne_iff_ne.mpr c20); (simp only [Option.some.injEq, Prod.mk.injEq] at H); (obtain ⟨rfl, rfl⟩ := H); (go_wp2_with (first | ((with_reducible refine gate_callee (f := 84) rfl ?_); refine gL (some 54) Tryd.func84 #[.int .i64 (wrap64 (-x5_3))] ?_; (with_reducible refine (spec_l1Num.calls k3 (wrap64 (-x5_3)) t102 _ A19.out).mono ?_); rintro e w22 ⟨rfl, hb⟩; refine ⟨_, rfl, ?_⟩; have n0_ := Aside0.mk (sI hb HB); clear HB; have HB := n0_; clear n0_; (try clear hb); (try clear hb2); (try clear hk); (try clear hi)))); (go_ret2); (exact Q7))
         ·rw [if_neg c18] at H
          (have c18b0 := decide_eq_false c18); (have c18b1 : decide (x4_5.size < a0.size) = false := decide_eq_false (fun h => c18 (Int.ofNat_lt.mpr h))); clear c18; (replace H := obS H); (obtain ⟨t103, A23, H⟩ := H); (by_cases c24 : t103.toList = a0.toList); (· (rw [if_pos c24] at H); (have c24b0 : (t103.toList == a0.toList) = true := beq_iff_eq.mpr c24); (have c24b1 : (t103.toList != a0.toList) = false := bne_eq_false_iff_eq.mpr c24); clear c24; (simp only [Option.some.injEq, Prod.mk.injEq] at H); (obtain ⟨rfl, rfl⟩ := H); (go_wp2_with (first | ((with_reducible refine gate_callee (f := 84) rfl ?_); refine gL (some 54) Tryd.func84 #[.int .i64 x5_3] ?_; (with_reducible refine (spec_l1Num.calls k3 x5_3 t103 _ A23.out).mono ?_); rintro e w25 ⟨rfl, hb⟩; refine ⟨_, rfl, ?_⟩; have n0_ := Aside0.mk (sI hb HB); clear HB; have HB := n0_; clear n0_; (try clear hb); (try clear hb2); (try clear hk); (try clear hi)))); (go_ret2); (exact Q7)); (· (rw [if_neg c24] at H); (have c24b0 : (t103.toList == a0.toList) = false := beq_eq_false_iff_ne.mpr c24); (have c24b1 : (t103.toList != a0.toList) = true := bne_iff_ne.mpr c24); (simp only [Option.some.injEq, Prod.mk.injEq] at H); (obtain ⟨rfl, rfl⟩ := H); (go_wp2_with (first | ((with_reducible refine gate_callee (f := 84) rfl ?_); refine gL (some 54) Tryd.func84 #[.int .i64 x5_3] ?_; (with_reducible refine (spec_l1Num.calls k3 x5_3 t103 _ A23.out).mono ?_); rintro e w26 ⟨rfl, hb⟩; refine ⟨_, rfl, ?_⟩; have n0_ := Aside0.mk (sI hb HB); clear HB; have HB := n0_; clear n0_; (try clear hb); (try clear hb2); (try clear hk); (try clear hi)))); (go_ret2); (exact Q7))
     ·replace c10 := Bool.eq_false_iff.mpr c10
      subst c10; (rw [if_neg (show ¬ (false = true) by decide)] at H); (simp only [Option.some.injEq, Prod.mk.injEq] at H); (obtain ⟨rfl, rfl⟩ := H); (go_wp2_with (first | ((with_reducible refine gate_callee (f := 82) rfl ?_); refine gL (some 20) Tryd.func82 #[.int .i64 (x4_5.size : Int), .int .i64 1, .int .i64 6] ?_; (with_reducible refine (spec_l1In.calls (x4_5.size : Int) 1 6 false _ A9.out).mono ?_); rintro e w' ⟨rfl, ⟨nd, rfl⟩⟩; refine ⟨_, rfl, ?_⟩))); (go_ret2); (exact Q7)
end Go.Proofs.YtiaiohoadefgjaaDoor.X
set_option linter.unusedVariables false
set_option linter.unusedSimpArgs false
namespace Go.Proofs.YtiaiohoadefgjaaDoor.X
open Go.RowKit Go.Proofs.YtiaiohoadefgjaaDoorW.PrintWords Go.Proofs.YtiaiohoadefgjaaDoor.E
theorem dec_digit : ∀ (u : Nat), ∀ c ∈ Lib.decDigits u, 48 ≤ c.toNat ∧ c.toNat ≤ 57 := by
 intro u
 induction u using Nat.strongRecOn with
 | _ u ih =>
  intro c hc
  have one : ∀ d, d < 10 → 48 ≤ (UInt8.ofNat (48 + d)).toNat ∧ (UInt8.ofNat (48 + d)).toNat ≤ 57 := by
   intro d hd
   have : ∀ j : Fin 10, 48 ≤ (UInt8.ofNat (48 + j.val)).toNat ∧ (UInt8.ofNat (48 + j.val)).toNat ≤ 57 := by decide +kernel
   exact this ⟨d, hd⟩
  rw [Lib.decDigits] at hc
  split at hc
  ·rw [List.mem_singleton.1 hc]; exact one u (by omega)
  ·rcases List.mem_append.1 hc with h | h
   ·exact ih (u / 10) (by omega) c h
   ·rw [List.mem_singleton.1 h]; exact one _ (by omega)
theorem dec_one (d : Nat) (hd : d < 10) : (UInt8.ofNat (48 + d)).toNat = 48 + d := by
 have : ∀ j : Fin 10, (UInt8.ofNat (48 + j.val)).toNat = 48 + j.val := by decide +kernel
 exact this ⟨d, hd⟩
theorem pu_snoc : ∀ (l : List UInt8) (acc m : Nat) (c : UInt8), Lib.parseUint10 acc l = .ok m → m < 1000000000000 → 48 ≤ c.toNat ∧ c.toNat ≤ 57 → Lib.parseUint10 acc (l ++ [c]) = .ok (m * 10 + (c.toNat - 48))
 | [], acc, m, c, h, hm, hc => by
  simp only [Lib.parseUint10] at h
  injection h with h
  subst h
  simp only [List.nil_append, Lib.parseUint10]
  rw [if_pos hc, if_neg (by omega), if_neg (by omega)]
 | b :: r, acc, m, c, h, hm, hc => by
  simp only [Lib.parseUint10] at h
  simp only [List.cons_append, Lib.parseUint10]
  split at h
  ·rename_i h1
   rw [if_pos h1]
   split at h
   ·cases h
   ·rename_i h2
    rw [if_neg h2]
    split at h
    ·cases h
    ·rename_i h3
     rw [if_neg h3]
     exact pu_snoc r _ m c h hm hc
  ·cases h
theorem pu_dec : ∀ (u : Nat), u < 1000000000000 → Lib.parseUint10 0 (Lib.decDigits u) = .ok u := by
 intro u
 induction u using Nat.strongRecOn with
 | _ u ih =>
  intro hu
  rw [Lib.decDigits]
  split
  ·rename_i h
   have := pu_snoc [] 0 0 (UInt8.ofNat (48 + u)) rfl (by omega) (by rw [dec_one u h]; omega)
   rw [List.nil_append, dec_one u h] at this
   rw [this]
   congr 1
   omega
  ·have := pu_snoc _ 0 (u / 10) (UInt8.ofNat (48 + u % 10)) (ih (u / 10) (by omega) (by omega)) (by omega) (by rw [dec_one _ (by omega)]; omega)
   rw [this, dec_one _ (by omega)]
   congr 1
   omega
theorem dec_ne (u : Nat) : Lib.decDigits u ≠ [] := by
 rw [Lib.decDigits]
 split <;> simp
theorem mag_dec (u : Nat) (hu : u < 1000000000000) : Lib.parseMag (Lib.decDigits u) = .ok u := by
 unfold Lib.parseMag
 rw [if_neg (dec_ne u)]
 exact pu_dec u hu
theorem atoi_itoa (v : Int) (h0 : -999999 ≤ v) (h1 : v ≤ 999999) : Lib.atoiAll (Lib.itoa v) = .ok v := by
 unfold Lib.itoa
 by_cases c : v < 0
 ·rw [if_pos c, Lib.atoiAll_minus, mag_dec _ (by omega)]
  simp only [Lib.signed]
  rw [if_neg (by omega)]
  congr 1
  omega
 ·rw [if_neg c]
  have hm := mag_dec v.toNat (by omega)
  cases hd : Lib.decDigits v.toNat with
  | nil => exact absurd hd (dec_ne _)
  | cons b r =>
   have hb := dec_digit v.toNat b (by rw [hd]; exact List.mem_cons_self ..)
   rw [hd] at hm
   rw [Lib.atoiAll_plain b r (by omega) (by omega), hm]
   simp only [Lib.signless]
   rw [if_neg (by omega)]
   congr 1
   omega
theorem parse_num {v : Int} (h0 : -999999 ≤ v) (h1 : v ≤ 999999) : parseE (numB v) = (v, true) := by
 unfold parseE
 have e : (numB v).data.toList = Lib.itoa v := by unfold numB; simp
 rw [e, atoi_itoa v h0 h1]
 exact if_pos ⟨⟨h0, h1⟩, rfl⟩
theorem bt_list (l : List UInt8) (i : Nat) (h : i < l.length) : bt ⟨l.toArray⟩ (i : Int) = ((l[i]).toNat : Int) := by
 unfold bt
 rw [Int.toNat_natCast]
 rw [dif_pos (show i < (⟨l.toArray⟩ : ByteArray).size from h)]
 rfl
theorem parseInt_eq (s : ByteArray) (h : s.size ≤ 281474976710656) : impl_ParseInt.f s = some (parseE s) := by unfold impl_ParseInt.f; rw [if_pos h]
end Go.Proofs.YtiaiohoadefgjaaDoor.X
set_option linter.unusedVariables false
set_option linter.unusedSimpArgs false
namespace Go.Proofs.YtiaiohoadefgjaaDoor.X
open Go.RowKit Go.Proofs.YtiaiohoadefgjaaDoorW.PrintWords Go.Proofs.YtiaiohoadefgjaaDoor.E
def mkB (l : List UInt8) : ByteArray := ⟨l.toArray⟩
theorem mkB_list (l : List UInt8) : (mkB l).data.toList = l := by unfold mkB; simp
theorem mkB_eta (x : ByteArray) : mkB x.data.toList = x := by
 apply ByteArray.ext
 unfold mkB
 simp
theorem mkB_size (l : List UInt8) : (mkB l).size = l.length := rfl
def consH (b : UInt8) : List (List UInt8) → List (List UInt8)
 | [] => [[b]]
 | h :: t => (b :: h) :: t
def splitL (c : UInt8) : List UInt8 → List (List UInt8)
 | [] => [[]]
 | b :: r => if b = c then [] :: splitL c r else consH b (splitL c r)
theorem splitL_ne (c : UInt8) : ∀ l, splitL c l ≠ []
 | [] => by simp [splitL]
 | b :: r => by
  rw [splitL]
  split
  ·simp
  ·cases splitL c r <;> simp [consH]
theorem splitL_no {c : UInt8} : ∀ {l : List UInt8}, c ∉ l → splitL c l = [l]
 | [], _ => rfl
 | b :: r, h => by
  rw [splitL, if_neg (fun e => h (by rw [← e]; exact List.mem_cons_self ..)), splitL_no (fun m => h (List.mem_cons_of_mem _ m))]
  rfl
theorem splitL_yes {c : UInt8} : ∀ {l : List UInt8} (r : List UInt8), c ∉ l → splitL c (l ++ c :: r) = l :: splitL c r
 | [], r, _ => by rw [List.nil_append, splitL, if_pos rfl]
 | b :: l, r, h => by
  rw [List.cons_append, splitL, if_neg (fun e => h (by rw [← e]; exact List.mem_cons_self ..)), splitL_yes r (fun m => h (List.mem_cons_of_mem _ m))]
  rfl
end Go.Proofs.YtiaiohoadefgjaaDoor.X
set_option linter.unusedVariables false
set_option linter.unusedSimpArgs false
namespace Go.Proofs.YtiaiohoadefgjaaDoor.X
open Go.RowKit Go.Proofs.YtiaiohoadefgjaaDoorW.PrintWords Go.Proofs.YtiaiohoadefgjaaDoor.E
theorem splitL_tail (c : UInt8) : ∀ (r : List (List UInt8)) (x : List UInt8), c ∉ x → (∀ w ∈ r, c ∉ w) → splitL c (x ++ Lib.joinTail [c] r) = x :: r
 | [], x, h, _ => by
  show splitL c (x ++ []) = _
  rw [List.append_nil, splitL_no h]
 | w :: r, x, h, hr => by
  have ih := splitL_tail c r w (hr w (List.mem_cons_self ..)) (fun v hv => hr v (List.mem_cons_of_mem _ hv))
  have e : x ++ Lib.joinTail [c] (w :: r) = x ++ c :: (w ++ Lib.joinTail [c] r) := by simp [Lib.joinTail]
  rw [e, splitL_yes _ h, ih]
theorem splitL_jn (x : ByteArray) (ws : List ByteArray) (h : (32 : UInt8) ∉ x.data.toList) (hw : ∀ w ∈ ws, (32 : UInt8) ∉ w.data.toList) : (splitL 32 (jn x ws).data.toList).map mkB = x :: ws := by
 rw [jn_list, splitL_tail 32 _ _ h (fun w hw' => by obtain ⟨v, hv, rfl⟩ := List.mem_map.1 hw'; exact hw v hv), List.map_cons, mkB_eta, List.map_map]
 congr 1
 exact (List.map_congr_left (g := id) (fun x _ => mkB_eta x)).trans (List.map_id _)
def textL (ls : List (List UInt8)) : List UInt8 := (ls.map (fun l => l ++ [10])).flatten
theorem splitL_text : ∀ ls : List (List UInt8), (∀ l ∈ ls, (10 : UInt8) ∉ l) → splitL 10 (textL ls) = ls ++ [[]]
 | [], _ => rfl
 | l :: ls, h => by
  have ih := splitL_text ls (fun v hv => h v (List.mem_cons_of_mem _ hv))
  have e : textL (l :: ls) = l ++ 10 :: textL ls := by simp [textL]
  rw [e, splitL_yes _ (h l (List.mem_cons_self ..)), ih]
  rfl
theorem textUp_list (form : List Field) : ∀ i, (textUp form i).data.toList = textL ((linesUp form i).map (·.data.toList))
 | 0 => rfl
 | i + 1 => by
  rw [textUp, linesUp, ByteArray.data_append, Array.toList_append, ByteArray.data_append, Array.toList_append, textUp_list form i]
  simp [textL]
theorem linesUp_mem (form : List Field) : ∀ n, ∀ x ∈ linesUp form n, ∃ i, i < n ∧ x = lineB (form.getD i zF)
 | 0, x, h => nomatch h
 | n + 1, x, h => by
  rw [linesUp] at h
  rcases List.mem_append.1 h with h | h
  ·obtain ⟨i, hi, e⟩ := linesUp_mem form n x h
   exact ⟨i, by omega, e⟩
  ·exact ⟨n, by omega, List.mem_singleton.1 h⟩
theorem jn_no (c : UInt8) (hc : c ≠ 32) (x : ByteArray) (ws : List ByteArray) (h : c ∉ x.data.toList) (hw : ∀ w ∈ ws, c ∉ w.data.toList) : c ∉ (jn x ws).data.toList := by
 rw [jn_list, List.mem_append]
 rintro (m | m)
 ·exact h m
 ·unfold Lib.joinTail at m
  obtain ⟨l, hl, hm⟩ := List.mem_flatten.1 m
  obtain ⟨v, hv, rfl⟩ := List.mem_map.1 hl
  obtain ⟨w, hw', rfl⟩ := List.mem_map.1 hv
  rcases List.mem_append.1 hm with hm | hm
  ·exact hc (List.mem_singleton.1 hm)
  ·exact hw w hw' hm
end Go.Proofs.YtiaiohoadefgjaaDoor.X
set_option linter.unusedVariables false
set_option linter.unusedSimpArgs false
namespace Go.Proofs.YtiaiohoadefgjaaDoor.X
open Go.RowKit Go.Proofs.YtiaiohoadefgjaaDoorW.PrintWords Go.Proofs.YtiaiohoadefgjaaDoor.E
theorem ba_inj {a b : ByteArray} (h : a.toList = b.toList) : a = b := by
 rw [Lib.toList_data, Lib.toList_data] at h
 exact ByteArray.ext (Array.toList_inj.1 h)
theorem fidx_at {form : List Field} {n : ByteArray} {j : Nat} (h : fidx form n = (j : Int)) : j < form.length ∧ (form.getD j zF).f0 = n := by
 rcases idxG_spec (fun x : Field => x.f0.toList == n.toList) form 0 with ⟨h1, _⟩ | ⟨j', x, h1, h2, h3, h4, _⟩
 ·have : fidx form n = -1 := h1
  omega
 ·have e : fidx form n = ((0 + j' : Nat) : Int) := h2
  obtain rfl : j' = j := by omega
  refine ⟨h1, ?_⟩
  rw [List.getD_eq_getElem?_getD, h3, Option.getD_some]
  exact ba_inj (by simpa using h4)
end Go.Proofs.YtiaiohoadefgjaaDoor.X
set_option linter.unusedVariables false
set_option linter.unusedSimpArgs false
namespace Go.Proofs.YtiaiohoadefgjaaDoor.X
open Go.RowKit Go.Proofs.YtiaiohoadefgjaaDoorW.PrintWords Go.Proofs.YtiaiohoadefgjaaDoor.E
def Cl (w : ByteArray) : Prop := ∀ b ∈ w.data.toList, 45 ≤ b.toNat
theorem Cl.no {w : ByteArray} (h : Cl w) (c : UInt8) (hc : c.toNat < 45) : c ∉ w.data.toList := fun m => by
 have := h c m
 omega
theorem name_cl {s : ByteArray} (h : nameB s = true) : Cl s := by
 intro b hb
 unfold nameB at h
 rw [Bool.and_eq_true, all_range] at h
 obtain ⟨i, hi, e⟩ := List.getElem_of_mem hb
 have hs : s.data.toList.length = s.size := by rw [Array.length_toList]; rfl
 have ha := h.2 i (by omega)
 have hbt : bt s (i : Int) = (b.toNat : Int) := by
  have := bt_list s.data.toList i hi
  rw [show (⟨s.data.toList.toArray⟩ : ByteArray) = s from mkB_eta s, e] at this
  exact this
 simp only [nameAt, Bool.or_eq_true, Bool.and_eq_true, decide_eq_true_eq, hbt] at ha
 omega
theorem num_cl (n : Int) : Cl (numB n) := by
 intro b hb
 have e : (numB n).data.toList = Lib.itoa n := by unfold numB; simp
 rw [e] at hb
 unfold Lib.itoa at hb
 split at hb
 ·rcases List.mem_cons.1 hb with rfl | h
  ·decide
  ·have := dec_digit _ b h
   omega
 ·have := dec_digit _ b hb
  omega
theorem lit_cl {l : List UInt8} (h : l.all (fun b => decide (45 ≤ b.toNat)) = true) : Cl (mkB l) := by
 intro b hb
 rw [mkB_list] at hb
 exact of_decide_eq_true (List.all_eq_true.1 h b hb)
theorem kind_cl (F : Field) (hk : kindOk F = true) : ∀ w ∈ kindW F, Cl w := by
 unfold kindOk at hk
 unfold kindW
 by_cases c1 : F.f1 = 1
 ·rw [if_pos c1]
  exact List.forall_mem_cons.2 ⟨lit_cl (l := [110, 117, 109, 98, 101, 114]) (by decide), List.forall_mem_cons.2 ⟨num_cl _, List.forall_mem_cons.2 ⟨num_cl _, fun _ h => nomatch h⟩⟩⟩
 rw [if_neg c1] at hk ⊢
 by_cases c2 : F.f1 = 2
 ·rw [if_pos c2]
  exact List.forall_mem_cons.2 ⟨lit_cl (l := [116, 101, 120, 116]) (by decide), List.forall_mem_cons.2 ⟨num_cl _, List.forall_mem_cons.2 ⟨num_cl _, fun _ h => nomatch h⟩⟩⟩
 rw [if_neg c2] at hk ⊢
 by_cases c3 : F.f1 = 3
 ·rw [if_pos c3] at hk ⊢
  rw [Bool.and_eq_true] at hk
  have hc := hk.2
  unfold choices at hc
  rw [all_range] at hc
  refine List.forall_mem_cons.2 ⟨lit_cl (l := [99, 104, 111, 105, 99, 101]) (by decide), fun w hw => ?_⟩
  obtain ⟨i, hi, e⟩ := List.getElem_of_mem hw
  have := hc i hi
  unfold choiceAt at this
  rw [Bool.and_eq_true, getD_in hi, e] at this
  exact name_cl this.1
 rw [if_neg c3]
 exact List.forall_mem_cons.2 ⟨lit_cl (l := [102, 108, 97, 103]) (by decide), fun _ h => nomatch h⟩
theorem need_cl (b : Bool) : ∀ w ∈ needW b, Cl w := by
 unfold needW
 split
 ·exact List.forall_mem_cons.2 ⟨lit_cl (l := [110, 101, 101, 100, 101, 100]) (by decide), fun _ h => nomatch h⟩
 ·exact fun _ h => nomatch h
theorem if_cl (s : ByteArray) (h : s.toList = ([] : List UInt8) ∨ nameB s = true) : ∀ w ∈ ifW s, Cl w := by
 unfold ifW
 split
 ·exact fun _ h => nomatch h
 ·rename_i hn
  exact List.forall_mem_cons.2 ⟨lit_cl (l := [105, 102]) (by decide), List.forall_mem_cons.2 ⟨name_cl (h.resolve_left hn), fun _ h => nomatch h⟩⟩
theorem field_cl {form : List Field} (h : formB form = true) {i : Nat} (hi : i < form.length) : Cl (form.getD i zF).f0 ∧ ∀ w ∈ kindW (form.getD i zF) ++ (needW (form.getD i zF).f5 ++ ifW (form.getD i zF).f6), Cl w := by
 unfold formB at h
 rw [Bool.and_eq_true, all_range] at h
 have hf := h.2
 have hb := hf i hi
 unfold fieldB at hb
 simp only [Bool.and_eq_true] at hb
 refine ⟨name_cl hb.1.1.1.1, ?_⟩
 have h6 : (form.getD i zF).f6.toList = ([] : List UInt8) ∨ nameB (form.getD i zF).f6 = true := by
  have := hb.1.2
  unfold ifOk at this
  simp only [Bool.or_eq_true, Bool.and_eq_true, decide_eq_true_eq, beq_iff_eq] at this
  rcases this with e | ⟨⟨h0, h1⟩, _⟩
  ·exact .inl e
  ·obtain ⟨j, hj⟩ : ∃ j : Nat, fidx form (form.getD i zF).f6 = (j : Int) := ⟨(fidx form (form.getD i zF).f6).toNat, by omega⟩
   obtain ⟨hjl, e⟩ := fidx_at hj
   have hbj := hf j hjl
   unfold fieldB at hbj
   simp only [Bool.and_eq_true] at hbj
   rw [e] at hbj
   exact .inr hbj.1.1.1.1
 intro w hw
 rcases List.mem_append.1 hw with m | m
 ·exact kind_cl _ hb.2 w m
 ·rcases List.mem_append.1 m with m | m
  ·exact need_cl _ w m
  ·exact if_cl _ h6 w m
theorem line_words {form : List Field} (h : formB form = true) {i : Nat} (hi : i < form.length) : (splitL 32 (lineB (form.getD i zF)).data.toList).map mkB = (form.getD i zF).f0 :: (kindW (form.getD i zF) ++ (needW (form.getD i zF).f5 ++ ifW (form.getD i zF).f6)) := by
 obtain ⟨h0, hw⟩ := field_cl h hi
 exact splitL_jn _ _ (h0.no 32 (by decide)) (fun w m => (hw w m).no 32 (by decide))
theorem text_lines {form : List Field} (h : formB form = true) : (splitL 10 (textUp form form.length).data.toList).map mkB = linesUp form form.length ++ [mkB []] := by
 rw [textUp_list, splitL_text, List.map_append, List.map_map]
 ·congr 1
  exact (List.map_congr_left (g := id) (fun x _ => mkB_eta x)).trans (List.map_id _)
 ·intro l hl
  obtain ⟨x, hx, rfl⟩ := List.mem_map.1 hl
  obtain ⟨i, hi, rfl⟩ := linesUp_mem form _ x hx
  obtain ⟨h0, hw⟩ := field_cl h hi
  exact jn_no 10 (by decide) _ _ (h0.no 10 (by decide)) (fun w m => (hw w m).no 10 (by decide))
end Go.Proofs.YtiaiohoadefgjaaDoor.X
set_option linter.unusedVariables false
set_option linter.unusedSimpArgs false
namespace Go.Proofs.YtiaiohoadefgjaaDoor.X
open Go.RowKit Go.Proofs.YtiaiohoadefgjaaDoorW.PrintWords Go.Proofs.YtiaiohoadefgjaaDoor.E
abbrev e0 : ByteArray := ⟨#[]⟩
theorem tN : (⟨#[110, 101, 101, 100, 101, 100]⟩ : ByteArray).toList = [110, 101, 101, 100, 101, 100] := by rw [Lib.toList_data]
theorem tI : (⟨#[105, 102]⟩ : ByteArray).toList = [105, 102] := by rw [Lib.toList_data]
theorem tU : (⟨#[110, 117, 109, 98, 101, 114]⟩ : ByteArray).toList = [110, 117, 109, 98, 101, 114] := by rw [Lib.toList_data]
theorem tT : (⟨#[116, 101, 120, 116]⟩ : ByteArray).toList = [116, 101, 120, 116] := by rw [Lib.toList_data]
theorem tC : (⟨#[99, 104, 111, 105, 99, 101]⟩ : ByteArray).toList = [99, 104, 111, 105, 99, 101] := by rw [Lib.toList_data]
theorem tG : (⟨#[102, 108, 97, 103]⟩ : ByteArray).toList = [102, 108, 97, 103] := by rw [Lib.toList_data]
theorem t0 : e0.toList = [] := by rw [Lib.toList_data]
theorem neL {x : ByteArray} {l m : List UInt8} (h : x.toList = l) (d : l ≠ m) : ¬ x.toList = m := fun e => d (h.symm.trans e)
theorem beL {x : ByteArray} {l : List UInt8} (h : x.toList = l) : (x.toList == l) = true := by rw [h]; exact beq_self_eq_true l
theorem nbL {x : ByteArray} {l m : List UInt8} (h : x.toList = l) (d : l ≠ m) : ¬ (x.toList == m) = true := by rw [h]; simpa using d
theorem implTail (R : List ByteArray) (nd : Bool) (f : ByteArray) (hR : R = needW nd ++ ifW f) (n : ByteArray) (c l m : Int) (cs : List ByteArray) :
  Ev (fun k => impl_fieldOfWords.j3 k R n c l m cs false e0) (n, c, l, m, cs, nd, f, true) := by
 have hlen := congrArg List.length hR
 have hd1 : (R.drop 1).length = R.length - 1 := List.length_drop
 by_cases e : f.toList = ([] : List UInt8)
 ·obtain rfl : f = e0 := ba_inj (e.trans t0.symm)
  have hi : ifW e0 = [] := by unfold ifW; rw [if_pos e]
  rw [hi, List.append_nil] at hlen hR
  cases nd
  ·have hlen' : R.length = 0 := hlen
   have hj : ∀ x : Bool, x = false → Ev (fun k => impl_fieldOfWords.j4 k R x n c l m cs false e0) (n, c, l, m, cs, false, e0, true) := fun x hx =>
    Ev.step (fun k => rfl) (ev_neg (by rw [hx]; simp) (ev_neg (by omega) (ev_now rfl)))
   exact Ev.step (fun k => rfl) (ev_neg (by omega) (hj false rfl))
  ·have hlen' : R.length = 1 := hlen
   have r0 : rdOf ByteArray.empty R 0 = ⟨#[110, 101, 101, 100, 101, 100]⟩ := by rw [hR]; rfl
   exact Ev.step (fun k => rfl) (ev_pos (by omega) (ev_pos (by omega) (Ev.step (fun k => rfl) (ev_pos (by rw [r0]; exact beL tN) (ev_pos (by omega) (ev_some (ev_neg (by omega) (ev_now rfl))))))))
 ·have hi : ifW f = [⟨#[105, 102]⟩, f] := by unfold ifW; rw [if_neg e]
  rw [hi] at hlen hR
  cases nd
  ·have hlen' : R.length = 2 := hlen
   have r0 : rdOf ByteArray.empty R 0 = ⟨#[105, 102]⟩ := by rw [hR]; rfl
   have r1 : rdOf ByteArray.empty R 1 = f := by rw [hR]; rfl
   refine Ev.step (fun k => rfl) (ev_pos (by omega) (ev_pos (by omega) (Ev.step (fun k => rfl) (ev_neg (by rw [r0]; exact nbL tI (by decide)) (ev_pos (by omega) (ev_pos (by omega) (ev_now ?_)))))))
   rw [r1]
  ·have hlen' : R.length = 3 := hlen
   have r0 : rdOf ByteArray.empty R 0 = ⟨#[110, 101, 101, 100, 101, 100]⟩ := by rw [hR]; rfl
   have r1 : rdOf ByteArray.empty (R.drop 1) 1 = f := by rw [hR]; rfl
   refine Ev.step (fun k => rfl) (ev_pos (by omega) (ev_pos (by omega) (Ev.step (fun k => rfl) (ev_pos (by rw [r0]; exact beL tN) (ev_pos (by omega) (ev_some (ev_pos (by omega) (ev_pos (by omega) (ev_now ?_)))))))))
   rw [r1]
def plain (w : ByteArray) : Prop := ¬ w.toList = ([110, 101, 101, 100, 101, 100] : List UInt8) ∧ ¬ w.toList = ([105, 102] : List UInt8)
theorem implChoice (nd : Bool) (f : ByteArray) (n : ByteArray) (c l m : Int) : ∀ (rem done R : List ByteArray), (∀ w ∈ rem, plain w) → rem.length + done.length ≤ 5000 → R = rem ++ (needW nd ++ ifW f) →
  Ev (fun k => impl_fieldOfWords.l0 k R n c l m done false e0) (n, c, l, m, done ++ rem, nd, f, true) := by
 intro rem
 induction rem with
 | nil =>
  intro done R hp hdn hR
  rw [List.nil_append] at hR
  rw [List.append_nil]
  have ht := implTail R nd f hR n c l m done
  have hlen := congrArg List.length hR
  by_cases d : f.toList = ([] : List UInt8)
  ·have hi : ifW f = [] := by unfold ifW; rw [if_pos d]
   rw [hi, List.append_nil] at hlen hR
   cases nd
   ·have hlen' : R.length = 0 := hlen
    exact Ev.step (fun k => rfl) (ev_neg (by omega) ht)
   ·have hlen' : R.length = 1 := hlen
    have r0 : rdOf ByteArray.empty R 0 = ⟨#[110, 101, 101, 100, 101, 100]⟩ := by rw [hR]; rfl
    exact Ev.step (fun k => rfl) (ev_pos (by omega) (ev_pos (by omega) (ev_pos (by rw [r0]; exact tN) ht)))
  ·have hi : ifW f = [⟨#[105, 102]⟩, f] := by unfold ifW; rw [if_neg d]
   rw [hi] at hlen hR
   cases nd
   ·have hlen' : R.length = 2 := hlen
    have r0 : rdOf ByteArray.empty R 0 = ⟨#[105, 102]⟩ := by rw [hR]; rfl
    exact Ev.step (fun k => rfl) (ev_pos (by omega) (ev_pos (by omega) (ev_neg (by rw [r0]; exact neL tI (by decide)) (ev_pos (by rw [r0]; exact tI) ht))))
   ·have hlen' : R.length = 3 := hlen
    have r0 : rdOf ByteArray.empty R 0 = ⟨#[110, 101, 101, 100, 101, 100]⟩ := by rw [hR]; rfl
    exact Ev.step (fun k => rfl) (ev_pos (by omega) (ev_pos (by omega) (ev_pos (by rw [r0]; exact tN) ht)))
 | cons w rem ih =>
  intro done R hp hdn hR
  rw [List.length_cons] at hdn
  have hlen := congrArg List.length hR
  rw [List.cons_append, List.length_cons] at hlen
  have r0 : rdOf ByteArray.empty R 0 = w := by rw [hR]; rfl
  have hw := hp w List.mem_cons_self
  have h := ih (done ++ [w]) (R.drop 1) (fun x hx => hp x (List.mem_cons_of_mem _ hx)) (by rw [List.length_append, List.length_singleton]; omega) (by rw [hR]; rfl)
  rw [List.append_assoc] at h
  refine Ev.step (fun k => rfl) (ev_pos (by omega) (ev_pos (by omega) (ev_neg (by rw [r0]; exact hw.1) (ev_neg (by rw [r0]; exact hw.2) (ev_pos (by omega) (ev_pos (by omega) ?_))))))
  rw [r0]
  exact h
theorem plain_of {F : Field} (h : badF F = false) : ∀ w ∈ F.f4, plain w := by
 unfold badF at h
 rw [Bool.or_eq_false_iff, List.any_eq_false, List.any_eq_false] at h
 intro w hw
 have h1 := h.1 w hw
 have h2 := h.2 w hw
 unfold isN at h1
 unfold isI at h2
 exact ⟨by simpa using h1, by simpa using h2⟩
def tupF (F : Field) (b : Bool) : ByteArray × Int × Int × Int × List ByteArray × Bool × ByteArray × Bool := (F.f0, F.f1, F.f2, F.f3, F.f4, F.f5, F.f6, b)
theorem kind_cases {F : Field} (hk : kindOk F = true) : ((F.f1 = 1 ∨ F.f1 = 2) ∧ (-999999 ≤ F.f2 ∧ F.f2 ≤ 999999) ∧ (-999999 ≤ F.f3 ∧ F.f3 ≤ 999999) ∧ F.f4 = []) ∨ (F.f1 = 3 ∧ F.f2 = 0 ∧ F.f3 = 0 ∧ F.f4.length ≤ 6) ∨ (F.f1 = 4 ∧ F.f2 = 0 ∧ F.f3 = 0 ∧ F.f4 = []) := by
 unfold kindOk at hk
 split at hk
 ·rename_i h1
  rw [Bool.and_eq_true, decide_eq_true_eq, beq_iff_eq] at hk
  exact .inl ⟨.inl h1, by omega, by omega, List.eq_nil_of_length_eq_zero hk.2⟩
 ·split at hk
  ·rename_i h1
   rw [Bool.and_eq_true, decide_eq_true_eq, beq_iff_eq] at hk
   exact .inl ⟨.inr h1, by omega, by omega, List.eq_nil_of_length_eq_zero hk.2⟩
  ·split at hk
   ·rename_i h1
    rw [Bool.and_eq_true, Bool.and_eq_true, decide_eq_true_eq, decide_eq_true_eq] at hk
    exact .inr (.inl ⟨h1, hk.1.1.1, hk.1.1.2, by omega⟩)
   ·split at hk
    ·rename_i h1
     rw [Bool.and_eq_true, decide_eq_true_eq, beq_iff_eq] at hk
     exact .inr (.inr ⟨h1, hk.1.1, hk.1.2, List.eq_nil_of_length_eq_zero hk.2⟩)
    ·cases hk
theorem tail_len (nd : Bool) (f : ByteArray) : (needW nd ++ ifW f).length ≤ 3 := by
 unfold needW ifW
 rw [List.length_append]
 split <;> split <;> simp
theorem implOwn (F : Field) (hk : kindOk F = true) (hb : badF F = false) (ws : List ByteArray) (hws : ws = F.f0 :: (kindW F ++ (needW F.f5 ++ ifW F.f6))) : Ev (fun k => impl_fieldOfWords.f k ws) (tupF F true) := by
 have htl := tail_len F.f5 F.f6
 have r0 : rdOf ByteArray.empty ws 0 = F.f0 := by rw [hws]; rfl
 have hlen := congrArg List.length hws
 rw [List.length_cons, List.length_append] at hlen
 have hdl : (ws.drop 2).length = ws.length - 2 := List.length_drop
 unfold tupF impl_fieldOfWords.f
 rcases kind_cases hk with ⟨hc, h2, h3, h4⟩ | ⟨hc, h2, h3, h4⟩ | ⟨hc, h2, h3, h4⟩
 ·have p1 : impl_ParseInt.f (numB F.f2) = some (F.f2, true) := by rw [parseInt_eq _ (Nat.le_trans (numB_small _ h2.1 h2.2) (by decide)), parse_num h2.1 h2.2]
  have p2 : impl_ParseInt.f (numB F.f3) = some (F.f3, true) := by rw [parseInt_eq _ (Nat.le_trans (numB_small _ h3.1 h3.2) (by decide)), parse_num h3.1 h3.2]
  rcases hc with hc | hc
  ·have hw : kindW F = [⟨#[110, 117, 109, 98, 101, 114]⟩, numB F.f2, numB F.f3] := by unfold kindW; rw [if_pos hc]
   rw [hw] at hws hlen
   have hlen' : ws.length = 4 + (needW F.f5 ++ ifW F.f6).length := by rw [hlen]; simp only [List.length_cons, List.length_nil]; omega
   have r1 : rdOf ByteArray.empty ws 1 = ⟨#[110, 117, 109, 98, 101, 114]⟩ := by rw [hws]; rfl
   have r2 : rdOf ByteArray.empty (ws.drop 2) 0 = numB F.f2 := by rw [hws]; rfl
   have r3 : rdOf ByteArray.empty (ws.drop 2) 1 = numB F.f3 := by rw [hws]; rfl
   have ht := implTail ((ws.drop 2).drop 2) F.f5 F.f6 (by rw [hws]; rfl) F.f0 1 F.f2 F.f3 []
   rw [hc, h4]
   refine ev_neg (by omega) (ev_pos (by omega) (ev_pos (by omega) (ev_pos (by omega) (ev_some (ev_pos (by rw [r1]; exact tU) ?_)))))
   rw [r1, r0]
   have hj : ∀ x : Bool, x = true → Ev (fun k => impl_fieldOfWords.j0 k (⟨#[110, 117, 109, 98, 101, 114]⟩ : ByteArray) (ws.drop 2) (⟨#[110, 117, 109, 98, 101, 114]⟩ : ByteArray) x F.f0 0 0 0 false e0) (F.f0, 1, F.f2, F.f3, [], F.f5, F.f6, true) := by
    intro x hx
    refine Ev.step (fun k => rfl) (ev_pos hx (ev_neg (neL tU (by decide)) ?_))
    exact Ev.step (fun k => rfl) (ev_neg (by omega) (ev_pos (by omega) (ev_bind0 (by rw [r2]; exact p1) (ev_pos (by omega) (ev_bind0 (by rw [r3]; exact p2) (ev_pos (by omega) ht))))))
   exact hj _ (beL tU)
  ·have hw : kindW F = [⟨#[116, 101, 120, 116]⟩, numB F.f2, numB F.f3] := by unfold kindW; rw [if_neg (by omega), if_pos hc]
   rw [hw] at hws hlen
   have hlen' : ws.length = 4 + (needW F.f5 ++ ifW F.f6).length := by rw [hlen]; simp only [List.length_cons, List.length_nil]; omega
   have r1 : rdOf ByteArray.empty ws 1 = ⟨#[116, 101, 120, 116]⟩ := by rw [hws]; rfl
   have r2 : rdOf ByteArray.empty (ws.drop 2) 0 = numB F.f2 := by rw [hws]; rfl
   have r3 : rdOf ByteArray.empty (ws.drop 2) 1 = numB F.f3 := by rw [hws]; rfl
   have ht := implTail ((ws.drop 2).drop 2) F.f5 F.f6 (by rw [hws]; rfl) F.f0 2 F.f2 F.f3 []
   rw [hc, h4]
   refine ev_neg (by omega) (ev_pos (by omega) (ev_pos (by omega) (ev_pos (by omega) (ev_some (ev_neg (by rw [r1]; exact neL tT (by decide)) ?_)))))
   rw [r1, r0]
   have hj : ∀ x : Bool, x = true → Ev (fun k => impl_fieldOfWords.j0 k (⟨#[116, 101, 120, 116]⟩ : ByteArray) (ws.drop 2) (⟨#[116, 101, 120, 116]⟩ : ByteArray) x F.f0 0 0 0 false e0) (F.f0, 2, F.f2, F.f3, [], F.f5, F.f6, true) := by
    intro x hx
    refine Ev.step (fun k => rfl) (ev_pos hx (ev_pos tT ?_))
    exact Ev.step (fun k => rfl) (ev_neg (by omega) (ev_pos (by omega) (ev_bind0 (by rw [r2]; exact p1) (ev_pos (by omega) (ev_bind0 (by rw [r3]; exact p2) (ev_pos (by omega) ht))))))
   exact hj _ (beL tT)
 ·have hw : kindW F = ⟨#[99, 104, 111, 105, 99, 101]⟩ :: F.f4 := by unfold kindW; rw [if_neg (by omega), if_neg (by omega), if_pos hc]
  rw [hw] at hws hlen
  rw [List.length_cons] at hlen
  have r1 : rdOf ByteArray.empty ws 1 = ⟨#[99, 104, 111, 105, 99, 101]⟩ := by rw [hws]; rfl
  have ht := implChoice F.f5 F.f6 F.f0 3 0 0 F.f4 [] (ws.drop 2) (plain_of hb) (by simp; omega) (by rw [hws]; rfl)
  rw [hc, h2, h3]
  refine ev_neg (by omega) (ev_pos (by omega) (ev_pos (by omega) (ev_pos (by omega) (ev_some (ev_neg (by rw [r1]; exact neL tC (by decide)) ?_)))))
  rw [r1, r0]
  have hj : ∀ x : Bool, ¬ x = true → Ev (fun k => impl_fieldOfWords.j0 k (⟨#[99, 104, 111, 105, 99, 101]⟩ : ByteArray) (ws.drop 2) (⟨#[99, 104, 111, 105, 99, 101]⟩ : ByteArray) x F.f0 0 0 0 false e0) (F.f0, 3, 0, 0, F.f4, F.f5, F.f6, true) := fun x hx =>
   Ev.step (fun k => rfl) (ev_neg hx (ev_pos tC ht))
  exact hj _ (nbL tC (by decide))
 ·have hw : kindW F = [⟨#[102, 108, 97, 103]⟩] := by unfold kindW; rw [if_neg (by omega), if_neg (by omega), if_neg (by omega)]
  rw [hw] at hws hlen
  have hlen' : ws.length = 2 + (needW F.f5 ++ ifW F.f6).length := by rw [hlen]; simp only [List.length_cons, List.length_nil]; omega
  have r1 : rdOf ByteArray.empty ws 1 = ⟨#[102, 108, 97, 103]⟩ := by rw [hws]; rfl
  have ht := implTail (ws.drop 2) F.f5 F.f6 (by rw [hws]; rfl) F.f0 4 0 0 []
  rw [hc, h2, h3, h4]
  refine ev_neg (by omega) (ev_pos (by omega) (ev_pos (by omega) (ev_pos (by omega) (ev_some (ev_neg (by rw [r1]; exact neL tG (by decide)) ?_)))))
  rw [r1, r0]
  have hj : ∀ x : Bool, ¬ x = true → Ev (fun k => impl_fieldOfWords.j0 k (⟨#[102, 108, 97, 103]⟩ : ByteArray) (ws.drop 2) (⟨#[102, 108, 97, 103]⟩ : ByteArray) x F.f0 0 0 0 false e0) (F.f0, 4, 0, 0, [], F.f5, F.f6, true) := fun x hx =>
   Ev.step (fun k => rfl) (ev_neg hx (ev_neg (neL tG (by decide)) (ev_pos tG ht)))
  exact hj _ (nbL tG (by decide))
end Go.Proofs.YtiaiohoadefgjaaDoor.X
set_option linter.unusedVariables false
set_option linter.unusedSimpArgs false
namespace Go.Proofs.YtiaiohoadefgjaaDoor.X
open Go.RowKit Go.Proofs.YtiaiohoadefgjaaDoorW.PrintWords Go.Proofs.YtiaiohoadefgjaaDoor.E
def Wds (ws : List ByteArray) : Prop := ws.length ≤ 5000 ∧ ∀ w ∈ ws, w.size ≤ 4000
def Sm4 (F : Field) : Prop := F.f0.size ≤ 4000 ∧ F.f4.length ≤ 5000 ∧ (∀ s ∈ F.f4, s.size ≤ 4000) ∧ F.f6.size ≤ 4000
theorem e0_size : e0.size ≤ 4000 := by decide
theorem rd_sz {ws : List ByteArray} (h : Wds ws) (i : Int) : (rdOf ByteArray.empty ws i).size ≤ 4000 := by
 unfold rdOf
 rw [List.getD_eq_getElem?_getD]
 cases e : ws[i.toNat]? with
 | none => exact e0_size
 | some x => exact h.2 x (List.mem_of_getElem? e)
theorem wds_drop {ws : List ByteArray} (h : Wds ws) (i : Nat) : Wds (ws.drop i) := ⟨by rw [List.length_drop]; have := h.1; omega, fun w hw => h.2 w (List.mem_of_mem_drop hw)⟩
theorem implJ4_tot (ws : List ByteArray) (h : Wds ws) (x : Bool) (hx : x = true → 1 ≤ ws.length) (n : ByteArray) (c l m : Int) (cs : List ByteArray) :
  ∃ nd f, Ev (fun k => impl_fieldOfWords.j4 k ws x n c l m cs false e0) (n, c, l, m, cs, nd, f, true) ∧ f.size ≤ 4000 := by
 by_cases hx0 : x = true
 case neg =>
  by_cases c1 : (ws.length : Int) = 2
  ·exact ⟨false, rdOf ByteArray.empty ws 1, Ev.step (fun k => rfl) (ev_neg hx0 (ev_pos c1 (ev_pos (by omega) (ev_now rfl)))), rd_sz h _⟩
  ·exact ⟨false, e0, Ev.step (fun k => rfl) (ev_neg hx0 (ev_neg c1 (ev_now rfl))), e0_size⟩
 ·have hlt := hx hx0
  by_cases c1 : ((ws.drop 1).length : Int) = 2
  ·exact ⟨true, rdOf ByteArray.empty (ws.drop 1) 1, Ev.step (fun k => rfl) (ev_pos hx0 (ev_pos (by omega) (ev_some (ev_pos c1 (ev_pos (by omega) (ev_now rfl)))))), rd_sz (wds_drop h 1) _⟩
  ·exact ⟨true, e0, Ev.step (fun k => rfl) (ev_pos hx0 (ev_pos (by omega) (ev_some (ev_neg c1 (ev_now rfl))))), e0_size⟩
theorem implJ3_tot (ws : List ByteArray) (h : Wds ws) (n : ByteArray) (c l m : Int) (cs : List ByteArray) :
  ∃ nd f, Ev (fun k => impl_fieldOfWords.j3 k ws n c l m cs false e0) (n, c, l, m, cs, nd, f, true) ∧ f.size ≤ 4000 := by
 by_cases c1 : (ws.length : Int) > 0
 ·obtain ⟨nd, f, h1, h2⟩ := implJ4_tot ws h ((rdOf ByteArray.empty ws 0).toList == ([110, 101, 101, 100, 101, 100] : List UInt8)) (fun _ => by omega) n c l m cs
  exact ⟨nd, f, Ev.step (fun k => rfl) (ev_pos c1 (ev_pos (by omega) h1)), h2⟩
 ·obtain ⟨nd, f, h1, h2⟩ := implJ4_tot ws h false (fun e => by cases e) n c l m cs
  exact ⟨nd, f, Ev.step (fun k => rfl) (ev_neg c1 h1), h2⟩
theorem implL0_tot (n : ByteArray) (c l m : Int) : ∀ (d : Nat) (ws done : List ByteArray), ws.length = d → Wds ws → ws.length + done.length ≤ 5000 → (∀ s ∈ done, s.size ≤ 4000) →
  ∃ cs nd f, Ev (fun k => impl_fieldOfWords.l0 k ws n c l m done false e0) (n, c, l, m, cs, nd, f, true) ∧ f.size ≤ 4000 ∧ cs.length ≤ 5000 ∧ ∀ s ∈ cs, s.size ≤ 4000 := by
 intro d
 induction d with
 | zero =>
  intro ws done e h hd hs
  obtain ⟨nd, f, h1, h2⟩ := implJ3_tot ws h n c l m done
  exact ⟨done, nd, f, Ev.step (fun k => rfl) (ev_neg (by omega) h1), h2, by omega, hs⟩
 | succ d ih =>
  intro ws done e h hd hs
  obtain ⟨nd, f, h1, h2⟩ := implJ3_tot ws h n c l m done
  by_cases c1 : (rdOf ByteArray.empty ws 0).toList = ([110, 101, 101, 100, 101, 100] : List UInt8)
  ·exact ⟨done, nd, f, Ev.step (fun k => rfl) (ev_pos (by omega) (ev_pos (by omega) (ev_pos c1 h1))), h2, by omega, hs⟩
  by_cases c2 : (rdOf ByteArray.empty ws 0).toList = ([105, 102] : List UInt8)
  ·exact ⟨done, nd, f, Ev.step (fun k => rfl) (ev_pos (by omega) (ev_pos (by omega) (ev_neg c1 (ev_pos c2 h1)))), h2, by omega, hs⟩
  obtain ⟨cs, nd, f, h3, h4⟩ := ih (ws.drop 1) (done ++ [rdOf ByteArray.empty ws 0]) (by rw [List.length_drop]; omega) (wds_drop h 1) (by rw [List.length_drop, List.length_append, List.length_singleton]; omega) (fun s hm => by
   rcases List.mem_append.1 hm with hm | hm
   ·exact hs s hm
   ·rw [List.mem_singleton.1 hm]; exact rd_sz h _)
  exact ⟨cs, nd, f, Ev.step (fun k => rfl) (ev_pos (by omega) (ev_pos (by omega) (ev_neg c1 (ev_neg c2 (ev_pos (by omega) (ev_pos (by omega) h3)))))), h4⟩
theorem implRead_tot (ws : List ByteArray) (h : Wds ws) : ∃ (F : Field) (b : Bool), Ev (fun k => impl_fieldOfWords.f k ws) (tupF F b) ∧ Sm4 F := by
 have hl := h.1
 have hn := rd_sz h 0
 unfold impl_fieldOfWords.f
 by_cases c0 : (ws.length : Int) < 2
 ·exact ⟨⟨e0, 0, 0, 0, [], false, e0⟩, false, ev_pos c0 (ev_now rfl), e0_size, by simp, by simp, e0_size⟩
 have hd := wds_drop h 2
 have hdl : (ws.drop 2).length = ws.length - 2 := List.length_drop
 have key : ∀ x21, ∃ (F : Field) (b : Bool), Ev (fun k => impl_fieldOfWords.j0 k (rdOf ByteArray.empty ws 1) (ws.drop 2) (rdOf ByteArray.empty ws 1) x21 (rdOf ByteArray.empty ws 0) 0 0 0 false e0) (tupF F b) ∧ Sm4 F := by
  intro x21
  by_cases hx0 : x21 = true
  case neg =>
   by_cases c1 : (rdOf ByteArray.empty ws 1).toList = ([99, 104, 111, 105, 99, 101] : List UInt8)
   ·obtain ⟨cs, nd, f, h1, h2, h3, h4⟩ := implL0_tot (rdOf ByteArray.empty ws 0) 3 0 0 _ (ws.drop 2) [] rfl hd (by simp; omega) (by simp)
    exact ⟨⟨rdOf ByteArray.empty ws 0, 3, 0, 0, cs, nd, f⟩, true, Ev.step (fun k => rfl) (ev_neg hx0 (ev_pos c1 h1)), hn, h3, h4, h2⟩
   by_cases c2 : (rdOf ByteArray.empty ws 1).toList = ([102, 108, 97, 103] : List UInt8)
   ·obtain ⟨nd, f, h1, h2⟩ := implJ3_tot (ws.drop 2) hd (rdOf ByteArray.empty ws 0) 4 0 0 []
    exact ⟨⟨rdOf ByteArray.empty ws 0, 4, 0, 0, [], nd, f⟩, true, Ev.step (fun k => rfl) (ev_neg hx0 (ev_neg c1 (ev_pos c2 h1))), hn, by simp, by simp, h2⟩
   ·obtain ⟨nd, f, h1, h2⟩ := implJ3_tot (ws.drop 2) hd (rdOf ByteArray.empty ws 0) 0 0 0 []
    exact ⟨⟨rdOf ByteArray.empty ws 0, 0, 0, 0, [], nd, f⟩, true, Ev.step (fun k => rfl) (ev_neg hx0 (ev_neg c1 (ev_neg c2 h1))), hn, by simp, by simp, h2⟩
  ·have key1 : ∀ kd : Int, ∃ (F : Field) (b : Bool), Ev (fun k => impl_fieldOfWords.j1 k (ws.drop 2) (rdOf ByteArray.empty ws 0) kd 0 0 false e0) (tupF F b) ∧ Sm4 F := by
    intro kd
    by_cases c1 : ((ws.drop 2).length : Int) < 2
    ·exact ⟨⟨e0, 0, 0, 0, [], false, e0⟩, false, Ev.step (fun k => rfl) (ev_pos c1 (ev_now rfl)), e0_size, by simp, by simp, e0_size⟩
    have p1 : impl_ParseInt.f (rdOf ByteArray.empty (ws.drop 2) 0) = some (parseE (rdOf ByteArray.empty (ws.drop 2) 0)) := parseInt_eq _ (Nat.le_trans (rd_sz hd 0) (by decide))
    have p2 : impl_ParseInt.f (rdOf ByteArray.empty (ws.drop 2) 1) = some (parseE (rdOf ByteArray.empty (ws.drop 2) 1)) := parseInt_eq _ (Nat.le_trans (rd_sz hd 1) (by decide))
    obtain ⟨nd, f, h1, h2⟩ := implJ3_tot ((ws.drop 2).drop 2) (wds_drop hd 2) (rdOf ByteArray.empty ws 0) kd (parseE (rdOf ByteArray.empty (ws.drop 2) 0)).1 (parseE (rdOf ByteArray.empty (ws.drop 2) 1)).1 []
    exact ⟨⟨rdOf ByteArray.empty ws 0, kd, (parseE (rdOf ByteArray.empty (ws.drop 2) 0)).1, (parseE (rdOf ByteArray.empty (ws.drop 2) 1)).1, [], nd, f⟩, true, Ev.step (fun k => rfl) (ev_neg c1 (ev_pos (by omega) (ev_bind0 p1 (ev_pos (by omega) (ev_bind0 p2 (ev_pos (by omega) h1)))))), hn, by simp, by simp, h2⟩
   by_cases c1 : (rdOf ByteArray.empty ws 1).toList = ([116, 101, 120, 116] : List UInt8)
   ·obtain ⟨F, b, h1, h2⟩ := key1 2
    exact ⟨F, b, Ev.step (fun k => rfl) (ev_pos hx0 (ev_pos c1 h1)), h2⟩
   ·obtain ⟨F, b, h1, h2⟩ := key1 1
    exact ⟨F, b, Ev.step (fun k => rfl) (ev_pos hx0 (ev_neg c1 h1)), h2⟩
 by_cases c1 : (rdOf ByteArray.empty ws 1).toList = ([110, 117, 109, 98, 101, 114] : List UInt8)
 ·obtain ⟨F, b, h1, h2⟩ := key _
  exact ⟨F, b, ev_neg c0 (ev_pos (by omega) (ev_pos (by omega) (ev_pos (by omega) (ev_some (ev_pos c1 h1))))), h2⟩
 ·obtain ⟨F, b, h1, h2⟩ := key _
  exact ⟨F, b, ev_neg c0 (ev_pos (by omega) (ev_pos (by omega) (ev_pos (by omega) (ev_some (ev_neg c1 h1))))), h2⟩
end Go.Proofs.YtiaiohoadefgjaaDoor.X
set_option linter.unusedVariables false
set_option linter.unusedSimpArgs false
namespace Go.Proofs.YtiaiohoadefgjaaDoor.X
open Go.RowKit Go.Proofs.YtiaiohoadefgjaaDoorW.PrintWords Go.Proofs.YtiaiohoadefgjaaDoor.E
theorem ixb_no : ∀ (l : List UInt8) (c : UInt8), c ∉ l → Lib.indexByte l c = -1
 | [], _, _ => rfl
 | b :: l, c, h => by
  have hb : (b == c) = false := by rw [beq_eq_false_iff_ne]; intro e; subst e; exact h (List.mem_cons_self ..)
  rw [Lib.indexByte, hb, ixb_no l c (fun m => h (List.mem_cons_of_mem _ m))]
  rfl
theorem ixb_yes : ∀ (l r : List UInt8) (c : UInt8), c ∉ l → Lib.indexByte (l ++ c :: r) c = (l.length : Int)
 | [], r, c, _ => by simp [Lib.indexByte]
 | b :: l, r, c, h => by
  have hb : (b == c) = false := by rw [beq_eq_false_iff_ne]; intro e; subst e; exact h (List.mem_cons_self ..)
  rw [List.cons_append, Lib.indexByte, hb, ixb_yes l r c (fun m => h (List.mem_cons_of_mem _ m))]
  have : ((l.length : Int) == -1) = false := by rw [beq_eq_false_iff_ne]; omega
  rw [this]
  simp
theorem splitK_one (c : UInt8) : ∀ (k : Nat) (l : List UInt8), l.count c ≤ k → Lib.splitK [c] 0 k l = splitL c l := by
 intro k
 induction k with
 | zero =>
  intro l h
  have hn : c ∉ l := List.count_eq_zero.1 (by omega)
  rw [Lib.splitK, splitL_no hn]
 | succ k ih =>
  intro l h
  rw [Lib.splitK, Lib.index_one]
  by_cases hm : c ∈ l
  ·obtain ⟨a, b, e, hn⟩ := List.eq_append_cons_of_mem hm
   subst e
   have hc : b.count c ≤ k := by
    rw [List.count_append, List.count_cons_self] at h
    omega
   have e0 : (((a.length : Int)) == -1) = false := by rw [beq_eq_false_iff_ne]; omega
   rw [ixb_yes a b c hn, e0, splitL_yes b hn, ← ih b hc]
   simp
  ·rw [ixb_no l c hm, splitL_no hm]
   rfl
theorem splitB_one (s : ByteArray) (c : UInt8) : Lib.splitB (mkB [c]) 0 (Lib.countB s (mkB [c])) s = (splitL c s.data.toList).map mkB := by
 have h := Lib.splitB_data (mkB [c]) 0 (Lib.countB s (mkB [c])) s
 have hc : Lib.countB s (mkB [c]) = s.data.toList.count c := by
  show Lib.count s.data.toList (mkB [c]).data.toList = _
  rw [mkB_list, Lib.count_one]
 rw [mkB_list, hc, splitK_one c _ _ (Nat.le_refl _)] at h
 rw [← h, List.map_map, hc]
 symm
 exact (List.map_congr_left (g := id) (fun x _ => mkB_eta x)).trans (List.map_id _)
end Go.Proofs.YtiaiohoadefgjaaDoor.X
set_option linter.unusedVariables false
set_option linter.unusedSimpArgs false
namespace Go.Proofs.YtiaiohoadefgjaaDoor.X
open Go.RowKit Go.Proofs.YtiaiohoadefgjaaDoorW.PrintWords Go.Proofs.YtiaiohoadefgjaaDoor.E
theorem splitL_len (c : UInt8) : ∀ l : List UInt8, (splitL c l).length ≤ l.length + 1
 | [] => by simp [splitL]
 | b :: l => by
  have h := splitL_len c l
  have hn := splitL_ne c l
  unfold splitL
  split
  ·simp only [List.length_cons]; omega
  ·unfold consH
   split
   ·simp
   ·rename_i hd tl e
    rw [e] at h
    simp only [List.length_cons] at h ⊢
    omega
theorem splitL_mem (c : UInt8) : ∀ l : List UInt8, ∀ p ∈ splitL c l, p.length ≤ l.length
 | [], p, hp => by simp [splitL] at hp; simp [hp]
 | b :: l, p, hp => by
  have h := splitL_mem c l
  unfold splitL at hp
  split at hp
  ·rcases List.mem_cons.1 hp with rfl | hp
   ·simp
   ·have := h p hp; rw [List.length_cons]; omega
  ·unfold consH at hp
   split at hp
   ·rcases List.mem_cons.1 hp with rfl | hp
    ·simp
    ·simp at hp
   ·rename_i hd tl e
    rw [e] at h
    rcases List.mem_cons.1 hp with rfl | hp
    ·have := h hd List.mem_cons_self; simp only [List.length_cons]; omega
    ·have := h p (List.mem_cons_of_mem _ hp); rw [List.length_cons]; omega
def pieces (c : UInt8) (s : ByteArray) : List ByteArray := (splitL c s.data.toList).map mkB
theorem pieces_wds (c : UInt8) (s : ByteArray) (h : s.size ≤ 4000) : Wds (pieces c s) := by
 have hs : s.data.toList.length = s.size := Array.length_toList
 refine ⟨?_, fun w hw => ?_⟩
 ·unfold pieces
  rw [List.length_map]
  have := splitL_len c s.data.toList
  omega
 ·unfold pieces at hw
  obtain ⟨p, hp, rfl⟩ := List.mem_map.1 hw
  have := splitL_mem c _ p hp
  rw [mkB_size]
  omega
theorem pieces_ne (c : UInt8) (s : ByteArray) : 1 ≤ (pieces c s).length := by
 unfold pieces
 rw [List.length_map]
 have := splitL_ne c s.data.toList
 rcases h : splitL c s.data.toList with _ | ⟨x, r⟩
 ·exact absurd h this
 ·simp
theorem split_f (s : ByteArray) (c : UInt8) (h : s.size ≤ 4000) : strings_Split.f s (mkB [c]) = some (pieces c s) := by
 have hc : Lib.countB s (mkB [c]) = s.data.toList.count c := by
  show Lib.count s.data.toList (mkB [c]).data.toList = _
  rw [mkB_list, Lib.count_one]
 have hl : s.data.toList.count c ≤ s.data.toList.length := List.count_le_length
 have hs : s.data.toList.length = s.size := Array.length_toList
 unfold strings_Split.f
 rw [if_pos ⟨⟨by omega, by rw [mkB_size]; simp⟩, by rw [hc]; omega⟩, splitB_one]
 rfl
open Classical in
noncomputable def gI (ws : List ByteArray) : Field × Bool := if h : ∃ p : Field × Bool, Ev (fun k => impl_fieldOfWords.f k ws) (tupF p.1 p.2) ∧ Sm4 p.1 then Classical.choose h else (zF, false)
theorem gI_ev {ws : List ByteArray} (h : Wds ws) : Ev (fun k => impl_fieldOfWords.f k ws) (tupF (gI ws).1 (gI ws).2) ∧ Sm4 (gI ws).1 := by
 have hx : ∃ p : Field × Bool, Ev (fun k => impl_fieldOfWords.f k ws) (tupF p.1 p.2) ∧ Sm4 p.1 := by
  obtain ⟨F, b, h1, h2⟩ := implRead_tot ws h
  exact ⟨(F, b), h1, h2⟩
 unfold gI
 rw [dif_pos hx]
 exact Classical.choose_spec hx
theorem tupF_inj {F G : Field} {a b : Bool} (h : tupF F a = tupF G b) : F = G ∧ a = b := by
 unfold tupF at h
 simp only [Prod.mk.injEq] at h
 obtain ⟨h0, h1, h2, h3, h4, h5, h6, h7⟩ := h
 refine ⟨?_, h7⟩
 cases F; cases G
 simp_all
noncomputable def fldsI (L : List ByteArray) : List Field := L.map (fun l => (gI (pieces 32 l)).1)
def Told (form : List Field) (t : ByteArray) : Prop := formB form = true ∧ allGood form = true ∧ t = textUp form form.length
theorem formOk_of {form : List Field} (h : formB form = true) (hs : ∀ f ∈ form, Sm4 f) : FormOk form := by
 unfold formB at h
 rw [Bool.and_eq_true, decide_eq_true_eq, all_range] at h
 have hk : ∀ i, i < form.length → kindOk (form.getD i zF) = true := by
  intro i hi
  have := h.2 i hi
  unfold fieldB at this
  rw [Bool.and_eq_true] at this
  exact this.2
 refine ⟨by omega, hk, fun i hi => ?_⟩
 have g := hs _ (List.getElem_mem hi)
 rw [← getD_in hi zF] at g
 have h4 : (form.getD i zF).f4.length ≤ 6 := by
  rcases kind_cases (hk i hi) with ⟨_, _, _, h⟩ | ⟨_, _, _, h⟩ | ⟨_, _, _, h⟩
  ·rw [h]; simp
  ·exact h
  ·rw [h]; simp
 exact ⟨Nat.le_trans g.1 (by decide), h4, fun s hm => Nat.le_trans (g.2.2.1 s hm) (by decide), Nat.le_trans g.2.2.2 (by decide)⟩
theorem sm4_fine {f : Field} (h : Sm4 f) : fine f := ⟨Nat.le_trans h.1 (by decide), Nat.le_trans h.2.1 (by decide), fun s hm => Nat.le_trans (h.2.2.1 s hm) (by decide), Nat.le_trans h.2.2.2 (by decide)⟩
theorem implFmt_any (form : List Field) (hl : form.length ≤ 5000) (hs : ∀ f ∈ form, Sm4 f) : ∃ t b, Ev (fun k => impl_FormatForm.f k form) (t, b) ∧ (b = true → Told form t) ∧ (∀ t', Told form t' → b = true ∧ t = t') := by
 have h1 := implForm_ev form (by omega) (fun f hf => sm4_fine (hs f hf))
 unfold impl_FormatForm.f
 cases hv : formB form
 ·rw [hv] at h1
  exact ⟨_, false, Ev.bind h1 (ev_neg (by simp) (ev_now rfl)), fun e => (by cases e), fun t' h => by rw [h.1] at hv; cases hv⟩
 rw [hv] at h1
 have V := formOk_of hv hs
 have e2 := implFmt_ev V
 cases hg : allGood form
 ·have hf : fmtB form = (⟨#[]⟩, false) := by unfold fmtB; rw [hg]; rfl
  rw [hf] at e2
  exact ⟨_, false, Ev.bind h1 (ev_pos rfl e2), fun e => (by cases e), fun t' h => by rw [h.2.1] at hg; cases hg⟩
 ·have hf : fmtB form = (textUp form form.length, true) := by unfold fmtB; rw [hg]; rfl
  rw [hf] at e2
  exact ⟨_, true, Ev.bind h1 (ev_pos rfl e2), fun _ => ⟨hv, hg, rfl⟩, fun t' h => ⟨rfl, h.2.2.symm⟩⟩
theorem flds_len {g : List ByteArray → Field × Bool} (L : List ByteArray) : (L.map (fun l => (g (pieces 32 l)).1)).length = L.length := List.length_map ..
theorem implLoop (s : ByteArray) (M : List ByteArray) (hM : Wds M) : ∃ b : Bool, Ev (fun k => impl_ParseForm.l0 k s ([] : List Field) M (M.length : Int) 0) (if b = true then (fldsI M, true) else ([], false)) ∧ (b = true ↔ ((∀ l ∈ M, (gI (pieces 32 l)).2 = true) ∧ Told (fldsI M) s)) := by
 have hl := hM.1
 have hw : ∀ l ∈ M, Wds (pieces 32 l) := fun l hm => pieces_wds 32 l (hM.2 l hm)
 have hs : ∀ f ∈ fldsI M, Sm4 f := by
  intro f hf
  obtain ⟨l, hm, rfl⟩ := List.mem_map.1 hf
  exact (gI_ev (hw l hm)).2
 have hfl : (fldsI M).length = M.length := flds_len M
 obtain ⟨t, b0, h1, h2, h3⟩ := implFmt_any (fldsI M) (by omega) hs
 have hat : ∀ i (hi : i < M.length), rdOf ByteArray.empty M (i : Int) = M[i] := by
  intro i hi
  unfold rdOf
  rw [Int.toNat_natCast, getD_in hi]
 have h := ev_all (L := fun k (st : List Field) i => impl_ParseForm.l0 k s st M (M.length : Int) i) M.length (fun i => fldsI (M.take i)) (fun i => (gI (pieces 32 (M.getD i ByteArray.empty))).2) (([] : List Field), false) (if b0 = true ∧ t.toList = s.toList then (fldsI M, true) else ([], false)) ?h0 ?h1 ?h2
 case h0 =>
  intro _
  refine Ev.step (fun k => rfl) (ev_neg (by omega) ?_)
  rw [List.take_length]
  refine Ev.bind h1 ?_
  by_cases c1 : b0 = true
  ·by_cases c2 : t.toList = s.toList
   ·exact ev_cast (ev_pos c1 (ev_pos c2 (ev_now rfl))) (if_pos (And.intro c1 c2)).symm
   ·exact ev_cast (ev_pos c1 (ev_neg c2 (ev_now rfl))) (if_neg (fun e : b0 = true ∧ t.toList = s.toList => c2 e.2)).symm
  ·exact ev_cast (ev_neg c1 (ev_now rfl)) (if_neg (fun e : b0 = true ∧ t.toList = s.toList => c1 e.1)).symm
 case h1 =>
  intro i hi _ hc y hy
  have hm := List.getElem_mem hi
  have hg := gI_ev (hw _ hm)
  rw [getD_in hi] at hc
  rw [hc] at hg
  have hst : fldsI (M.take (i + 1)) = fldsI (M.take i) ++ [(gI (pieces 32 M[i])).1] := by
   unfold fldsI
   rw [List.take_succ_eq_append_getElem hi, List.map_append]
   rfl
  have hln : (fldsI (M.take i)).length = i := by unfold fldsI; rw [List.length_map, List.length_take]; omega
  refine Ev.step (fun k => rfl) (ev_pos (by omega) (ev_pos (by omega) (ev_pos (by omega) (ev_bind0 (by rw [hat i hi]; exact split_f _ 32 (hM.2 _ hm)) (Ev.bind hg.1 (ev_pos rfl (ev_pos (by rw [hln]; omega) ?_)))))))
  rw [wrap_succ hi (by omega)]
  rw [hst] at hy
  exact hy
 case h2 =>
  intro i hi _ hc
  have hm := List.getElem_mem hi
  have hg := gI_ev (hw _ hm)
  rw [getD_in hi] at hc
  rw [hc] at hg
  exact Ev.step (fun k => rfl) (ev_pos (by omega) (ev_pos (by omega) (ev_pos (by omega) (ev_bind0 (by rw [hat i hi]; exact split_f _ 32 (hM.2 _ hm)) (Ev.bind hg.1 (ev_neg (by simp [tupF]) (ev_now rfl)))))))
 have hall : (List.range M.length).all (fun i => (gI (pieces 32 (M.getD i ByteArray.empty))).2) = true ↔ ∀ l ∈ M, (gI (pieces 32 l)).2 = true := by
  rw [all_range]
  constructor
  ·intro h l hm
   obtain ⟨i, hi, rfl⟩ := List.mem_iff_getElem.1 hm
   have := h i hi
   rw [getD_in hi] at this
   exact this
  ·intro h i hi
   rw [getD_in hi]
   exact h _ (List.getElem_mem hi)
 by_cases ca : (List.range M.length).all (fun i => (gI (pieces 32 (M.getD i ByteArray.empty))).2) = true
 ·rw [if_pos ca] at h
  by_cases cb : b0 = true ∧ t.toList = s.toList
  ·rw [if_pos cb] at h
   refine ⟨true, h, ⟨fun _ => ⟨hall.1 ca, ?_⟩, fun _ => rfl⟩⟩
   have := h2 cb.1
   rw [← ba_inj cb.2]
   exact this
  ·rw [if_neg cb] at h
   refine ⟨false, h, ⟨fun e => (by cases e), fun e => absurd ?_ cb⟩⟩
   obtain ⟨g1, g2⟩ := h3 s e.2
   exact ⟨g1, by rw [g2]⟩
 ·rw [if_neg ca] at h
  exact ⟨false, h, ⟨fun e => (by cases e), fun e => absurd (hall.2 e.1) ca⟩⟩
theorem told_reads {form : List Field} {s : ByteArray} (h : Told form s) : pieces 10 s = linesUp form form.length ++ [mkB []] ∧ form.length ≤ 10 ∧ (Wds (pieces 10 s) → fldsI (linesUp form form.length) = form ∧ (∀ l ∈ linesUp form form.length, (gI (pieces 32 l)).2 = true)) := by
 obtain ⟨h1, h2, rfl⟩ := h
 have hb := h1
 unfold formB at hb
 rw [Bool.and_eq_true, decide_eq_true_eq, all_range] at hb
 have htl := text_lines h1
 refine ⟨htl, by omega, fun hw => ?_⟩
 unfold allGood at h2
 rw [all_range] at h2
 have hlen := linesUp_len form form.length
 have hone : ∀ i, i < form.length → gI (pieces 32 (lineB (form.getD i zF))) = (form.getD i zF, true) := by
  intro i hi
  have hmem : lineB (form.getD i zF) ∈ linesUp form form.length := by
   rw [← linesUp_get form form.length i hi]
   rw [getD_in (by omega)]
   exact List.getElem_mem _
  have hwl : Wds (pieces 32 (lineB (form.getD i zF))) := by
   refine pieces_wds 32 _ (hw.2 _ ?_)
   have : pieces 10 (textUp form form.length) = linesUp form form.length ++ [mkB []] := htl
   rw [this]
   exact List.mem_append_left _ hmem
  have hlw : pieces 32 (lineB (form.getD i zF)) = (form.getD i zF).f0 :: (kindW (form.getD i zF) ++ (needW (form.getD i zF).f5 ++ ifW (form.getD i zF).f6)) := line_words h1 hi
  have hk : kindOk (form.getD i zF) = true := by
   have := hb.2 i hi
   unfold fieldB at this
   rw [Bool.and_eq_true] at this
   exact this.2
  have hbad : badF (form.getD i zF) = false := by simpa using h2 i hi
  have e1 := ev_unique (gI_ev hwl).1 (implOwn _ hk hbad _ hlw)
  obtain ⟨a1, a2⟩ := tupF_inj e1
  exact Prod.ext a1 a2
 have hgen : ∀ (g : List ByteArray → Field × Bool), (∀ i, i < form.length → g (pieces 32 (lineB (form.getD i zF))) = (form.getD i zF, true)) → (linesUp form form.length).map (fun l => (g (pieces 32 l)).1) = form := by
  intro g hg
  apply List.ext_getElem
  ·rw [List.length_map]; exact hlen
  ·intro i h3 h4
   rw [List.getElem_map]
   have := linesUp_get form form.length i h4
   rw [getD_in (by omega)] at this
   rw [this, hg i h4, getD_in h4]
 refine ⟨hgen gI (fun i hi => hone i hi), fun l hl => ?_⟩
 obtain ⟨i, hi, rfl⟩ := linesUp_mem form form.length l hl
 rw [hone i hi]
theorem parse_told (s : ByteArray) (hs : s.size ≤ 4000) : ∃ (form : List Field) (b : Bool), Ev (fun k => impl_ParseForm.f k s) (form, b) ∧ (∀ f ∈ form, Sm4 f) ∧ form.length ≤ 4000 ∧ (b = true → Told form s) ∧ (∀ F, Told F s → form = F ∧ b = true) := by
 have hW := pieces_wds 10 s hs
 have hn := pieces_ne 10 s
 obtain ⟨m, hm⟩ : ∃ m, (pieces 10 s).length = m + 1 := ⟨(pieces 10 s).length - 1, by omega⟩
 have hml := hW.1
 have hwr : wrap64 (((pieces 10 s).length : Int) - 1) = (m : Int) := by rw [wrap_id (by omega) (by omega)]; omega
 have hWt : Wds ((pieces 10 s).take m) := ⟨by rw [List.length_take]; omega, fun w hw => hW.2 w (List.mem_of_mem_take hw)⟩
 have htl : ((pieces 10 s).take m).length = m := by rw [List.length_take]; omega
 obtain ⟨b1, i1, i2⟩ := implLoop s ((pieces 10 s).take m) hWt
 have himpl : Ev (fun k => impl_ParseForm.f k s) (if b1 = true then (fldsI ((pieces 10 s).take m), true) else ([], false)) := by
  refine ev_neg (by omega) (ev_bind0 (split_f s 10 hs) (ev_pos (by rw [hwr]; omega) (ev_pos (by rw [hwr]; omega) (ev_some ?_))))
  rw [hwr, Int.toNat_natCast]
  exact i1
 have hsm : ∀ f ∈ fldsI ((pieces 10 s).take m), Sm4 f := by
  intro f hf
  obtain ⟨l, hl, rfl⟩ := List.mem_map.1 hf
  exact (gI_ev (pieces_wds 32 l (hW.2 l (List.mem_of_mem_take hl)))).2
 have hun : ∀ F, Told F s → fldsI ((pieces 10 s).take m) = F ∧ b1 = true := by
  intro F hF
  obtain ⟨p1, p2, p3⟩ := told_reads hF
  obtain ⟨q1, q3⟩ := p3 hW
  have hfl := linesUp_len F F.length
  have hmm : m = F.length := by
   have := congrArg List.length p1
   rw [List.length_append, List.length_singleton, hfl] at this
   omega
  have htk : (pieces 10 s).take m = linesUp F F.length := by
   rw [p1, List.take_append_of_le_length (by omega), List.take_of_length_le (by omega)]
  rw [htk] at i2 ⊢
  rw [q1] at i2
  exact ⟨q1, i2.2 ⟨fun l hl => q3 l hl, hF⟩⟩
 have hlen : (fldsI ((pieces 10 s).take m)).length ≤ 4000 ∨ b1 = false := by
  cases hb : b1
  ·exact Or.inr rfl
  ·left
   have := (i2.1 hb).2.1
   unfold formB at this
   rw [Bool.and_eq_true, decide_eq_true_eq] at this
   omega
 cases hb : b1
 ·rw [hb] at himpl
  exact ⟨[], false, himpl, by simp, by simp, fun e => (by cases e), fun F hF => by have := (hun F hF).2; rw [hb] at this; cases this⟩
 ·rw [hb] at himpl
  refine ⟨_, true, himpl, hsm, ?_, fun _ => (i2.1 hb).2, fun F hF => ⟨(hun F hF).1, rfl⟩⟩
  rcases hlen with h | h
  ·exact h
  ·rw [hb] at h; cases h
end Go.Proofs.YtiaiohoadefgjaaDoor.X
set_option linter.unusedVariables false
set_option linter.unusedSimpArgs false
namespace Go.Proofs.YtiaiohoadefgjaaDoor.Pure
open Go.RowKit Go.Proofs.YtiaiohoadefgjaaDoor.X Go.Proofs.YtiaiohoadefgjaaDoorW.PrintWords Go.Proofs.YtiaiohoadefgjaaDoor.E
theorem cu_start {l : List Int} (h : l.length ≤ 9223372036854775807 ∧ ∀ y ∈ l, (Lit.int .u8 y).wf = true) : Cu l 0 := by
 refine ⟨h.1, fun y hy => ?_, by omega, by omega⟩
 have := h.2 y hy
 simp only [Lit.wf, Bool.and_eq_true, decide_eq_true_eq] at this
 exact this
theorem good_sm4 {F : X.Field} (h : GoodF 5 F) : Sm4 F := ⟨Nat.le_trans h.1 (by decide), Nat.le_trans h.2.1 (by decide), fun s hs => Nat.le_trans (h.2.2.1 s hs) (by decide), Nat.le_trans h.2.2.2.1 (by decide)⟩
theorem textUp_good {form : List X.Field} (hg : ∀ f ∈ form, GoodF 5 f) : ∀ i, i ≤ form.length → (textUp form i).size ≤ 260 * i
 | 0, _ => Nat.le_refl _
 | i + 1, h => by
  have h1 := textUp_good hg i (by omega)
  have G := hg _ (List.getElem_mem (show i < form.length by omega))
  rw [← getD_in (show i < form.length by omega) zF] at G
  have h2 := lineB_good G
  have h3 : (⟨#[10]⟩ : ByteArray).size = 1 := rfl
  rw [textUp, ByteArray.size_append, ByteArray.size_append]
  omega
theorem fmt_two (form : List X.Field) (hl : form.length ≤ 6) (hg : ∀ f ∈ form, GoodF 5 f) : ∃ (t : ByteArray) (b : Bool), Ev (fun k => impl_FormatForm.f k form) (t, b) ∧ Ev (fun k => spec_FormatForm.f k form) (t, b) ∧ (b = true → X.Told form t) ∧ t.size ≤ 4000 := by
 have hs : ∀ f ∈ form, Sm4 f := fun f hf => good_sm4 (hg f hf)
 have h1 := implForm_ev form (by omega) (fun f hf => sm4_fine (hs f hf))
 have h1' := specForm_ev form (by omega) (fun f hf => sm4_fine (hs f hf))
 have hnz : (⟨#[]⟩ : ByteArray).size = 0 := rfl
 unfold impl_FormatForm.f spec_FormatForm.f
 cases hv : formB form
 ·rw [hv] at h1 h1'
  exact ⟨_, false, Ev.bind h1 (ev_neg (by simp) (ev_now rfl)), Ev.bind h1' (ev_neg (by simp) (ev_now rfl)), fun e => (by cases e), by rw [hnz]; omega⟩
 rw [hv] at h1 h1'
 have V := formOk_of hv hs
 have e2 := implFmt_ev V
 have e3 := specFmt_ev V
 cases hgd : allGood form
 ·have hf : fmtB form = (⟨#[]⟩, false) := by unfold fmtB; rw [hgd]; rfl
  rw [hf] at e2 e3
  exact ⟨_, false, Ev.bind h1 (ev_pos rfl e2), Ev.bind h1' (ev_pos rfl (Ev.bind e3 (ev_now rfl))), fun e => (by cases e), by rw [hnz]; omega⟩
 ·have hf : fmtB form = (textUp form form.length, true) := by unfold fmtB; rw [hgd]; rfl
  rw [hf] at e2 e3
  have := textUp_good hg form.length (Nat.le_refl _)
  exact ⟨_, true, Ev.bind h1 (ev_pos rfl e2), Ev.bind h1' (ev_pos rfl (Ev.bind e3 (ev_now rfl))), fun _ => ⟨hv, hgd, rfl⟩, by omega⟩
theorem vTexts_self (ws : List ByteArray) (hl : ws.length ≤ 5000) : Ev (fun k => laws_vTexts.f k ws ws) true := by
 refine ev_pos rfl (ev_same (L := fun k i => laws_vTexts.l0 k ws ws i) ws.length ?_ ?_)
 ·exact Ev.step (fun k => rfl) (ev_neg (by omega) (ev_now rfl))
 ·intro i hi hnext
  refine Ev.step (fun k => rfl) (ev_pos (by omega) (ev_pos (by omega) (ev_pos (by omega) (ev_pos rfl ?_))))
  rw [wrap_succ hi (by omega)]
  exact hnext
theorem vForms_self (form : List X.Field) (hl : form.length ≤ 5000) (h4 : ∀ f ∈ form, f.f4.length ≤ 5000) : Ev (fun k => laws_vForms.f k form form) true := by
 refine ev_pos rfl (ev_same (L := fun k i => laws_vForms.l0 k form form i) form.length ?_ ?_)
 ·exact Ev.step (fun k => rfl) (ev_neg (by omega) (ev_now rfl))
 ·intro i hi hnext
  have h5 : (rd_T54 form (i : Int)).f4.length ≤ 5000 := by
   unfold rd_T54
   rw [Int.toNat_natCast, getD_in hi]
   exact h4 _ (List.getElem_mem hi)
  refine Ev.step (fun k => rfl) (ev_pos (by omega) (ev_pos (by omega) (ev_pos (by omega) (ev_pos rfl (ev_pos rfl (ev_pos rfl (ev_pos rfl (ev_neg (by simp) (ev_pos rfl (Ev.bind (vTexts_self _ h5) (ev_pos rfl ?_)))))))))))
  rw [wrap_succ hi (by omega)]
  exact hnext
theorem drawParse_tot {l : List Int} (h : Cu l 0) : ∃ t, Ev (fun k => spec_DrawParseForm.f k l) t ∧ t.size ≤ 4000 := by
 obtain ⟨L, a', s', h1, hl, hg, hc, hb⟩ := form_tot h 0
 obtain ⟨t, b, h2, hz⟩ := lines_tot hl hg
 obtain ⟨o, a2, s2, e2, c2, b2⟩ := one_tot s' 3 hc (by omega)
 cases o
 ·exact ⟨t, Ev.bind h1 (Ev.bind h2 (ev_bind0 e2 (ev_neg (by simp) (ev_now rfl)))), by omega⟩
 ·obtain ⟨x, a3, s3, e3, z3, c3, b3⟩ := spoilt_tot s2 t (⟨#[97, 32, 49, 48, 110, 105, 102, 10]⟩ : ByteArray) (by decide) (by omega) (by decide) c2 (by omega)
  exact ⟨x, Ev.bind h1 (Ev.bind h2 (ev_bind0 e2 (ev_pos rfl (ev_bind0 e3 (ev_now rfl))))), by omega⟩
theorem second (l : List Int) (h : Cu l 0) (x : Bool) (hx : x = false) : Ev (fun k => laws_FnForms.j0 k l x) true := by
 obtain ⟨u, hu, hz⟩ := drawParse_tot h
 obtain ⟨form, b, hp, hs, hl, hb, hun⟩ := parse_told u hz
 obtain ⟨t, sh, hf, hf1, hf2⟩ := implFmt_any form (by omega) hs
 refine Ev.step (fun k => rfl) (ev_neg (by rw [hx]; simp) (Ev.bind hu (Ev.bind hp (Ev.bind hf ?_))))
 cases b
 ·exact ev_neg (by simp) (ev_now rfl)
 ·obtain ⟨e1, e2⟩ := hf2 u (hb rfl)
  exact ev_pos rfl (ev_pos e1 (ev_now (by rw [e2]; simp)))
theorem FnForms : PureFnForms := by
 intro code hcode
 have hcu := cu_start hcode
 unfold laws_FnForms.f
 refine ev_get (ev_bind0 (show laws_vBig.f code = some (decide ((code.length : Int) > 65536)) from rfl) ?_)
 by_cases cb : decide ((code.length : Int) > 65536) = true
 ·exact ev_pos cb (ev_now rfl)
 refine ev_neg cb ?_
 obtain ⟨L, a', s', h1, hl, hg, hc, hb⟩ := form_tot hcu 0
 have hdraw : Ev (fun k => spec_DrawFormatForm.f k code) L := Ev.bind (Ev.bind h1 (ev_now rfl)) (ev_now rfl)
 obtain ⟨t, b, hi, hsp, htold, hz⟩ := fmt_two L hl hg
 have hfine : ∀ f ∈ L, fine f := fun f hf => sm4_fine (good_sm4 (hg f hf))
 have v1 := implForm_ev L (by omega) hfine
 have v2 : Ev (fun k => spec_IsValidForm.f k L) (formB L) := Ev.bind (specForm_ev L (by omega) hfine) (ev_now rfl)
 obtain ⟨form, rd, hp, hs, hlen, hbt, hun⟩ := parse_told t hz
 refine Ev.bind hdraw (Ev.bind hi (Ev.bind hp (Ev.bind hsp (ev_neg (by simp) (Ev.bind v1 (Ev.bind v2 (ev_neg (by simp) ?_)))))))
 cases b
 ·exact ev_neg (by simp) (second code hcu false rfl)
 ·obtain ⟨rfl, rfl⟩ := hun L (htold rfl)
  exact ev_pos rfl (ev_pos rfl (Ev.bind (vForms_self form (by omega) (fun f hf => (hs f hf).2.1)) (second code hcu _ (by simp))))
end Go.Proofs.YtiaiohoadefgjaaDoor.Pure
namespace Go.Proofs.YtiaiohoadefgjaaDoor.fnForms
open Go.ChangeShapes Go.WideShapes Go.ChangeAt Go.RowKit Go.Joins Go.Proofs.YtiaiohoadefgjaaDoorW.PrintWords Go.Proofs.YtiaiohoadefgjaaDoor.Open Go.Proofs.YtiaiohoadefgjaaDoor.X
open Go.ChangeMaps (open_string shut_string)
set_option linter.unusedVariables false
theorem own : ownKnob Tryd.prog.godebug = none := by kernel_rfl
def laid : List (String × DataW Unit) := [("math/bits.deBruijn32tab", Rows.laid_math_bits_deBruijn32tab), ("math/bits.deBruijn64tab", Rows.laid_math_bits_deBruijn64tab), ("internal/strconv.uint64pow10", Rows.laid_internal_strconv_uint64pow10), ("unicode/utf8.acceptRanges", Rows.laid_unicode_utf8_acceptRanges), ("strconv.ErrRange", Rows.laid_strconv_ErrRange), ("strconv.ErrSyntax", Rows.laid_strconv_ErrSyntax), ("unicode/utf8.first", Rows.laid_unicode_utf8_first)]
theorem door_met (os : Os) (args : Array Value) : laidMetH Tryd.prog laid ((World.laidAll Tryd.prog os laid).forCall (fun _ _ => 0) ⟨#[], args, []⟩).memory := by
 rw [MakeChecks.laidMetH_plain _ _ _ (by kernel_rfl)]; exact laidMet_laidAll _ (by kernel_rfl) (by kernel_rfl)
theorem gTab : Tryd.prog.globalNamed "internal/strconv.uint64pow10" = some 1 := by kernel_rfl
theorem gTabType : (Tryd.prog.globals[1]?).map (·.type) = some 131 := by kernel_rfl
theorem cellsT : Tryd.prog.cellsOf 131 = 20 := by kernel_rfl
theorem cellsE : Tryd.prog.cellsOf 63 = 1 := by kernel_rfl
theorem only : laid.filter (fun x => x.1 == "internal/strconv.uint64pow10") = [("internal/strconv.uint64pow10", Lib.tabData .u64 Lib.pow10Tab)] := by kernel_rfl
theorem tableT {W : World} (h : laidMetH Tryd.prog laid W) : GT W := by
 have h2 := h.filter (fun x => x.1 == "internal/strconv.uint64pow10")
 rw [only] at h2
 rw [MakeChecks.laidMetH_plain _ _ _ (by kernel_rfl)] at h2
 exact Lib.tabIs_of_head (rest := []) gTab gTabType Tryd.underlying131 Tryd.underlying63 cellsE cellsT h2
theorem star : "*" ++ "errors.errorString" = "*errors.errorString" := by decide
theorem rowE (u : TypeId) (h : Tryd.prog.typeName? 3 u = some "*errors.errorString") : u = 149 := typeName_ptr_named (nm := "errors.errorString") (by rw [star]; kernel_rfl) (by kernel_rfl) (by decide) u (by rw [star]; exact h)
theorem gErrSyntax : Tryd.prog.globalNamed "strconv.ErrSyntax" = some 4 := by kernel_rfl
theorem onlyErrSyntax : laid.filter (fun x => x.1 == "strconv.ErrSyntax") = [("strconv.ErrSyntax", Rows.laid_strconv_ErrSyntax)] := by kernel_rfl
theorem cellErrSyntax {W : World} (h : laidMetH Tryd.prog laid W) : ∃ t v, W.cell? ⟨4, 0, none⟩ = some (.iface t v) := by
 have h2 := h.filter (fun x => x.1 == "strconv.ErrSyntax")
 rw [onlyErrSyntax] at h2
 rw [MakeChecks.laidMetH_plain _ _ _ (by kernel_rfl)] at h2
 unfold Rows.laid_strconv_ErrSyntax at h2
 obtain ⟨a, s, hv, _, _, _⟩ := laid_sentinel h2 gErrSyntax (by kernel_rfl : (Tryd.prog.globals[4]?).map (·.type) = some 100) Tryd.underlying100 rowE Tryd.underlying149 Tryd.underlying151 rfl rfl Tryd.underlying9 (by kernel_rfl : Tryd.prog.cellsOf 151 = 1) (by kernel_rfl : Tryd.prog.cellsOf 9 = 1)
 exact ⟨_, _, World.var?_cell gErrSyntax hv 0⟩
theorem gErrRange : Tryd.prog.globalNamed "strconv.ErrRange" = some 5 := by kernel_rfl
theorem onlyErrRange : laid.filter (fun x => x.1 == "strconv.ErrRange") = [("strconv.ErrRange", Rows.laid_strconv_ErrRange)] := by kernel_rfl
theorem cellErrRange {W : World} (h : laidMetH Tryd.prog laid W) : ∃ t v, W.cell? ⟨5, 0, none⟩ = some (.iface t v) := by
 have h2 := h.filter (fun x => x.1 == "strconv.ErrRange")
 rw [onlyErrRange] at h2
 rw [MakeChecks.laidMetH_plain _ _ _ (by kernel_rfl)] at h2
 unfold Rows.laid_strconv_ErrRange at h2
 obtain ⟨a, s, hv, _, _, _⟩ := laid_sentinel h2 gErrRange (by kernel_rfl : (Tryd.prog.globals[5]?).map (·.type) = some 100) Tryd.underlying100 rowE Tryd.underlying149 Tryd.underlying151 rfl rfl Tryd.underlying9 (by kernel_rfl : Tryd.prog.cellsOf 151 = 1) (by kernel_rfl : Tryd.prog.cellsOf 9 = 1)
 exact ⟨_, _, World.var?_cell gErrRange hv 0⟩
theorem table {W : World} (h : laidMetH Tryd.prog laid W) (hsh : W.ShapedOpen Tryd.prog) : GE W := ⟨tableT h, cellErrSyntax h, cellErrRange h, Tryd.laysM143.s1_3 W hsh⟩
/-- The wrap of a row with a condition on the world, the world's shape kept for the walk. -/
theorem ret_and_shaped {H : Type} {enc : TypeId × Value → H} {a : Assume} {C : Checked} {os : Os} {f : FuncId} {fn : Func} {s : ChangeSpec} {conds : List PathCond} {apart fresh handsOn again : Bool} {X : World → Array Value → Prop}
  (hX : ∀ (w w' : World) (args : Array Value), w.heap = w'.heap → X w args → X w' args)
  (own : ownKnob C.prog.godebug = none) (started : os.Started) (noInit : C.prog.inits.idxOf? f = none) (hfn : C.prog.funcs[f]? = some fn)
  (witness : ∃ (w : World) (tape : Tape) (i : Input), w.os = os ∧ (w.forCall tape i).Shaped C.prog ∧ i.vars = [] ∧ Input.okWide C.prog (w.forCall tape i) .any w.heap.size f i ∧
   ((s.pre enc C.prog fn conds apart (w.forCall tape i).memory i.args ∧ X (w.forCall tape i).memory i.args) ∧ sizedMet enc C.prog fn (OpenSpec.ofChange s) apart (w.forCall tape i).memory i.args) ∧ a.holds C.prog (lone (Frame.enter C.prog f i.args .normal) [] (w.forCall tape i)))
  (contract : ∀ (W : World) (base : Nat) (args : Array Value) (ds gs : List (DataW H)) (before : List MemPlace),
   (∀ (j : Nat) t v, fn.params[j]? = some t → args[j]? = some v → Value.okWide C.prog W .any base t v) → DataW.Whole enc C.prog fn.params.toList s.vars apart W args.toList ds gs before →
   conds.all (PathCond.test C.prog ⟨fn.params.toList, ds, s.plain.varTypes C.prog, gs⟩) = true → (DataW.weightsEach C.prog (fn.params.toList ++ s.plain.varTypes C.prog) (ds ++ gs)).all (· ≤ reachBytes) = true → X W args →
   W.ShapedOpen C.prog → a.holds C.prog (lone (Frame.enter C.prog f args .normal) [] W) → Calls C.prog f args W fun e W' => ∃ v, e = .returned v ∧ s.post enc C.prog fn apart fresh handsOn again W args v W') :
  ReturnsInHanded a C os f .any (fun w args => (s.pre enc C.prog fn conds apart w args ∧ X w args) ∧ sizedMet enc C.prog fn (OpenSpec.ofChange s) apart w args) (s.post enc C.prog fn apart fresh handsOn again) := by
 refine returnsInHanded_of_calls own started noInit witness ?_
 intro w tape i _ hsh _ hok hpre hholds
 obtain ⟨_, _, _, fn', hfn', _, _, _, _, hval⟩ := hok
 have e : fn' = fn := Option.some.inj (hfn'.symm.trans hfn)
 subst e
 obtain ⟨⟨⟨ds, gs, before, hw, hc⟩, hx⟩, hz⟩ := hpre
 refine (contract (w.forCall tape i) w.heap.size i.args ds gs before hval (DataW.Whole.of_heap (w' := w.forCall tape i) (by rfl) hw) hc (hz.weights hw) (hX _ _ _ (by rfl) hx) hsh hholds).mono fun e W' ⟨v, he, hp⟩ => ?_
 subst he
 exact ChangeSpec.post_blind hp
theorem laidOut : laidOutB Tryd.prog = true := by kernel_rfl
set_option maxRecDepth 100000 in
theorem lifted (os : Os) (started : os.Started) (H : Type) (enc : TypeId × Value → H) :
  ReturnsInHanded {} Tryd.checked os 3 .any (fun w args => (Rows.fnFormsSpec.pre enc Tryd.prog Tryd.f3 [] false w args ∧ laidMetH Tryd.prog laid w) ∧ sizedMet enc Tryd.prog Tryd.f3 (OpenSpec.ofChange Rows.fnFormsSpec) false w args)
   (Rows.fnFormsSpec.post enc Tryd.prog Tryd.f3 false true false false) := by
 refine ret_and_shaped (C := Tryd.checked) (X := fun w _ => laidMetH Tryd.prog laid w) (fun _ _ _ hh h => h.of_heap hh) own started (by kernel_rfl) Tryd.func3
  (ChangeSpec.witness_shaped (enc := enc) (C := Tryd.checked) (os := os) (X := fun w _ => laidMetH Tryd.prog laid w) false (World.laidAll Tryd.prog os laid) #[.slice none 0 0] 8 (World.laidAll_os _ _ _) (World.shaped_of_ZipB (by kernel_rfl) (by kernel_rfl)) (by kernel_rfl) (by kernel_rfl) (by kernel_rfl) (door_met os _)) ?_
 intro W base args ds gs before hval0 hW hcnd hsz0 hL hsh _
 have hval : ∀ (j : Nat) t v, Tryd.f3.params[j]? = some t → args[j]? = some v → Value.okWide Tryd.prog W .any base t v := hval0
 have hW' := hW
 obtain ⟨p, q, hA0, hV, rfl, hfz, hnd⟩ := hW
 have hA : DataW.TrodAll enc Tryd.prog W 0 (fun _ => true) true Tryd.f3.params.toList args.toList ds p := hA0
 rw [Tryd.params3] at hA hval
 obtain ⟨v0, vs0, d0, ds0, p0, q0, hargs, rfl, rfl, h0, r0⟩ := trodAll_cons hA
 obtain ⟨rfl, rfl, rfl⟩ := trodAll_nil r0
 obtain rfl : args = #[v0] := by cases args; simp_all
 obtain ⟨rfl, rfl⟩ := trodVars_none hV
 have kk0 := h0
 have lt0 : ∀ x ∈ p0, x.block < W.heap.size := by obtain ⟨m, hm⟩ := kk0; exact DataW.trod_lt m _ _ _ hm
 obtain ⟨A0, c0, a0, rfl, hc0, hr0, g0⟩ := arg_slice op22 (okWide_slice Tryd.underlying22 (hval 0 22 v0 rfl rfl)) h0
 clear hA0 hval0 hsz0
 obtain ⟨k, hk⟩ := Pure.FnForms a0 g0
 refine (X.laws_FnForms.calls k _ _ a0 true W hr0 hc0 (table hL hsh) hk (Aside0.mk rfl)).mono ?_
 rintro e W' ⟨he, bel0⟩
 have bel : Below W.heap.size W W' := by first | exact bel0 | exact bel0.below
 subst he
 exact ⟨_, rfl, _, _, _, [], _, [], hW', trodAll_mk1 (shut_bool Tryd.underlying4 _), (trodAll_cons_mk (Below.trod laidOut (by kernel_rfl) (of_decide_eq_true (by kernel_rfl)) kk0 bel lt0) trodAll_mk0), rfl, bel.frame _, fun h => by cases h⟩
theorem over : Rows.fnFormsRow.holds Tryd.pinned (OpenSpec.ofChange Rows.fnFormsSpec) :=
 OpenClaim.holds_of_wide 3 Tryd.f3 rfl rfl rfl rfl rfl rfl rfl ⟨rfl, rfl, rfl, rfl, rfl⟩ rfl rfl rfl rfl rfl (by kernel_rfl) Tryd.func3 (by kernel_rfl)
  (of_decide_eq_true (by kernel_rfl)) (by unfold Func.isWrapper; first | (rw [if_pos (by decide +kernel)]; kernel_rfl) | (rw [if_neg (by decide +kernel)]; exact ⟨rfl, rfl⟩))
  (fun os started H enc _ => lifted os started H enc)
theorem proved : Rows.FnFormsSaid := over
#print axioms proved
theorem plain (f : FuncId) (fn : Func) (hf : Tryd.pinned.checked.prog.funcNamed "loop.example/g00876/laws.FnForms" = some f) (hfn : Tryd.pinned.checked.prog.funcs[f]? = some fn) :
  true = Tryd.pinned.checked.prog.looks [] ∧ ∀ (j : Nat) t, fn.params[j]? = some t → Tryd.pinned.checked.prog.wantsStandIn t = false := by
 obtain rfl : f = 3 := Option.some.inj ((show Tryd.prog.funcNamed "loop.example/g00876/laws.FnForms" = some 3 by kernel_rfl).symm.trans hf) |>.symm
 obtain rfl : fn = Tryd.f3 := (Option.some.inj (Tryd.func3.symm.trans hfn)).symm
 refine ⟨by kernel_rfl, fun j t ht => ?_⟩
 rw [Tryd.params3] at ht
 have hm := Array.mem_of_getElem? ht
 simp only [List.mem_toArray, List.mem_cons, List.not_mem_nil, or_false] at hm
 rcases hm with rfl
 exact (show Tryd.prog.wantsStandIn 22 = false by kernel_rfl)
theorem card : Rows.FnFormsCardSaid :=
 Claim7.holds_tied_plain_at .later [] _ _ _ _ proved (fun _ h => by cases h) (by kernel_rfl) (fun _ h => by cases h) fnForms_row_tie rfl ⟨rfl, rfl⟩ (by kernel_rfl) rfl plain (by kernel_rfl)
#print axioms card
end Go.Proofs.YtiaiohoadefgjaaDoor.fnForms
namespace Go.Proofs.YtiaiohoadefgjaaDoor
/-- The row, under a short name, for the claim. -/
theorem fnForms_holds : Rows.FnFormsSaid := fnForms.proved
/-- The card, under a short name. -/
theorem fnFormsCard_holds : Rows.FnFormsCardSaid := fnForms.card
end Go.Proofs.YtiaiohoadefgjaaDoor
