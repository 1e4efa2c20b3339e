/- For all forms and answers the law FnExactCheckAnswers answers true. No condition beyond what a reading tells.
This file (part 5 of 5) holds what the proof needs: plain functions with rounds and contracts written by programs of this work over the translation, and the lemmas. -/
import Derived.Test.YtdogpphfofimeaaDoorZFnExactCheckAnswers2
import Derived.Test.YtdogpphfofimeaaDoorZFnExactCheckAnswers4
import Derived.Test.YtdogpphfofimeaaDoorZFnExactCheckAnswers3
import Derived.Lib.Strings
import Derived.Lib.ItoaNum
import Derived.Lib.ItoaLen
import Derived.Lib.AtoiAllCases
import Derived.Test.YtdogpphfofimeaaDoorTie
import Derived.Test.YtdogpphfofimeaaDoorCards
import Derived.Test.YtdogpphfofimeaaDoorRows
import Derived.WalkKit
import Derived.ProofKit
import Derived.OpenShut
import Derived.ShutString
import Derived.ChangeOld
import Derived.Below
import Derived.SizedLaws
import Derived.Lib.SmallJoins
import Derived.LaidMore
import Derived.Stop.Joined
import Derived.Stop.LaidErr
import Derived.Lib.LaidTab
import Derived.LaidSub
import Derived.Handed
import Derived.SevenTiedAt
namespace Go.Proofs.YtdogpphfofimeaaDoor.X
open Go.RowKit Go.Proofs.YtdogpphfofimeaaDoorW.PrintWords Go.Proofs.YtdogpphfofimeaaDoorW.PrintLast Go.Proofs.YtdogpphfofimeaaDoorW.PrintMore
attribute [local go_sem] max2_int min2_int max_two min_two max_three min_three max_four min_four   -- for this text's walks alone
set_option linter.unusedVariables false
set_option linter.unusedSimpArgs false
attribute [-simp] ByteArray.size_append ByteArray.size_extract
attribute [-go_sem] ByteArray.size_append'

/-! ### spec_IsValidForm: function 38 -/
def spec_IsValidForm.f (k : Nat) (l0 : List (S69)) : Option (Bool) := (spec_l23Good.f k l0).bind fun t101 => (some t101)
set_option maxHeartbeats 8000000 in
set_option maxRecDepth 100000 in
theorem spec_IsValidForm.calls (k : Nat) (A0 : Option Addr) (c0 : Nat) (l0 : List (S69)) (r : Bool) (w : World) (hr0 : Kd.C k69 w A0 l0.length l0) (hc0 : l0.length ≤ c0) (h : spec_IsValidForm.f k l0 = some r) :
  Calls Tryd.prog 38 #[.slice A0 l0.length c0] w fun e w' => e = .returned (.bool r) ∧ Below w.heap.size w w' := by
 (have HR0 := Aside0.mk hr0); (have HC0 := Aside0.mk hc0); clear hr0 hc0; (have HB := Aside0.mk (Below.refl w.heap.size w)); (unfold spec_IsValidForm.f at h); (have H := h); clear h; (replace H := obS H); (obtain ⟨t101, A2, H⟩ := H); (obtain rfl := Option.some.inj H); (go_enter Tryd.func38, Tryd.ntmps38); (go_wp2_with (first | ((with_reducible refine gate_callee (f := 44) rfl ?_); refine gL (some 4) Tryd.func44 #[.slice A0 l0.length c0] ?_; (with_reducible refine (spec_l23Good.calls k _ _ l0 t101 _ ?side1 ?side2 A2.out).mono ?_); (case side1 => exact cI HR0.out); (case side2 => exact HC0.out); rintro e w3 ⟨rfl, hb⟩; refine ⟨_, rfl, ?_⟩; have n0_ := Aside0.mk (sI hb HB); clear HB; have HB := n0_; clear n0_; (try clear hb); (try clear hb2); (try clear hk); (try clear hi)))); go_ret; (exact ⟨rfl, eI HB⟩)

end Go.Proofs.YtdogpphfofimeaaDoor.X
set_option linter.unusedVariables false
set_option linter.unusedSimpArgs false
namespace Go.Proofs.YtdogpphfofimeaaDoor.X
open Go.RowKit Go.Proofs.YtdogpphfofimeaaDoorW.PrintWords Go.Proofs.YtdogpphfofimeaaDoor.E
abbrev Field := S69
abbrev zF : Field := z69
/-- What a reading tells of a field's sizes. -/
def fine (f : Field) : Prop := f.f0.size ≤ 9223372036854775807 ∧ f.f4.length ≤ 9223372036854775807 ∧ (∀ s ∈ f.f4, s.size ≤ 9223372036854775807) ∧ f.f6.size ≤ 9223372036854775807
abbrev fidx (form : List Field) (n : ByteArray) : Int := idxG (fun x : Field => x.f0.toList == n.toList) 0 form
theorem l23Find_ev (form : List Field) (n : ByteArray) (hl : form.length ≤ 9223372036854775807) : Ev (fun k => spec_l23Find.f k form n) (fidx form n) := by
  have h := ev_walk (L := fun k i => spec_l23Find.l0 k form n i) (G := fun i r => idxG (fun x : Field => x.f0.toList == n.toList) i r) form (Ev.step (fun k => rfl) (ev_neg (by omega) (ev_now rfl))) ?step
  case step =>
    intro i x r hi hd hx hk
    refine Ev.step (fun k => rfl) (ev_pos (by omega) (ev_pos (by omega) ?_))
    simp only [rd_T69, Int.toNat_natCast, hx]
    by_cases c : x.f0.toList = n.toList
    · exact ev_pos c (ev_now (by simp [idxG, c]))
    · refine ev_neg c ?_
      rw [wrap_succ hi hl]
      exact ev_cast hk (by simp [idxG, c])
  exact h
theorem fieldOf_eq (form : List Field) (n : ByteArray) : impl_fieldOf.f form n = some (fidx form n) := rfl
/-- A list's choices: names, and none twice. -/
def choiceAt (l : List ByteArray) (i : Nat) : Bool := nameB (l.getD i ByteArray.empty) && (List.range i).all (fun k => !((l.getD k ByteArray.empty).toList == (l.getD i ByteArray.empty).toList))
def choices (l : List ByteArray) : Bool := (List.range l.length).all (choiceAt l)
theorem l23Names_ev (l : List ByteArray) (hl : l.length ≤ 9223372036854775807) (hs : ∀ s ∈ l, s.size ≤ 9223372036854775807) : Ev (fun k => spec_l23Names.f k l) (choices l) := by
  have inner : ∀ i, i < l.length → ∀ y, ((List.range i).all (fun k => !((l.getD k ByteArray.empty).toList == (l.getD i ByteArray.empty).toList)) = true → Ev (fun k => spec_l23Names.l0 k l ((i + 1 : Nat) : Int)) y) →
      Ev (fun k => spec_l23Names.l1 k l i 0) (if (List.range i).all (fun k => !((l.getD k ByteArray.empty).toList == (l.getD i ByteArray.empty).toList)) = true then y else false) := by
    intro i hi y hy
    refine ev_all0 (L := fun k j => spec_l23Names.l1 k l i j) i _ false y ?_ ?_ ?_
    · intro hC
      refine Ev.step (fun k => rfl) (ev_neg (by omega) ?_)
      rw [wrap_succ hi hl]
      exact hy (all_range.2 hC)
    · intro m hm _ hc z hz
      refine Ev.step (fun k => rfl) (ev_pos (by omega) (ev_pos (by omega) (ev_pos (by omega) (ev_pos (by omega) (ev_pos (by omega) (ev_neg ?_ ?_))))))
      · simp only [rdOf, Int.toNat_natCast]
        simpa using hc
      · rw [wrap_succ hm (by omega)]; exact hz
    · intro m hm _ hc
      refine Ev.step (fun k => rfl) (ev_pos (by omega) (ev_pos (by omega) (ev_pos (by omega) (ev_pos (by omega) (ev_pos (by omega) (ev_pos ?_ (ev_now rfl)))))))
      simp only [rdOf, Int.toNat_natCast]
      simpa using hc
  have h := ev_all0 (L := fun k i => spec_l23Names.l0 k l i) l.length (choiceAt l) false true (fun _ => Ev.step (fun k => rfl) (ev_neg (by omega) (ev_now rfl))) ?h1 ?h2
  case h1 =>
    intro i hi _ hc y hy
    simp only [choiceAt, Bool.and_eq_true] at hc
    refine Ev.step (fun k => rfl) (ev_pos (by omega) (ev_pos (by omega) ?_))
    simp only [rdOf, Int.toNat_natCast]
    refine Ev.bind (l7Name_ev _ (by rw [getD_in hi]; exact hs _ (List.getElem_mem hi))) (ev_pos hc.1 ?_)
    have := inner i hi y (fun _ => hy)
    rw [if_pos hc.2] at this
    exact this
  case h2 =>
    intro i hi _ hc
    refine Ev.step (fun k => rfl) (ev_pos (by omega) (ev_pos (by omega) ?_))
    simp only [rdOf, Int.toNat_natCast]
    refine Ev.bind (l7Name_ev _ (by rw [getD_in hi]; exact hs _ (List.getElem_mem hi))) (ev_ite (fun h1 => ?_) (fun _ => ev_now rfl))
    have hn : ¬ (List.range i).all (fun k => !((l.getD k ByteArray.empty).toList == (l.getD i ByteArray.empty).toList)) = true := by
      intro h2
      simp only [choiceAt, h1, h2] at hc
      cases hc
    have := inner i hi false (fun h => absurd h hn)
    rw [if_neg hn] at this
    exact this
  refine ev_cast h ?_
  unfold choices
  cases (List.range l.length).all (choiceAt l) <;> rfl
theorem slicesIndexStr_ev (l : List ByteArray) (n : ByteArray) (hl : l.length ≤ 9223372036854775807) : Ev (fun k => slices_Index_string_string.f k l n) (idxG (fun x : ByteArray => x.toList == n.toList) 0 l) := by
  have h := ev_walk (L := fun k i => slices_Index_string_string.l0 k l n (l.length : Int) i) (G := fun i r => idxG (fun x : ByteArray => x.toList == n.toList) i r) l (Ev.step (fun k => rfl) (ev_neg (by omega) (ev_now rfl))) ?step
  case step =>
    intro i x r hi hd hx hk
    refine Ev.step (fun k => rfl) (ev_pos (by omega) (ev_pos (by omega) (ev_pos (by omega) ?_)))
    simp only [rdOf, Int.toNat_natCast, hx]
    by_cases c : n.toList = x.toList
    · exact ev_pos c (ev_now (by simp [idxG, c]))
    · refine ev_neg c ?_
      rw [wrap_succ hi hl]
      have c' : ¬ x.toList = n.toList := fun h => c h.symm
      exact ev_cast hk (by simp [idxG, c'])
  exact h
theorem slicesContainsStr_ev (l : List ByteArray) (n : ByteArray) (hl : l.length ≤ 9223372036854775807) : Ev (fun k => slices_Contains_string_string.f k l n) (l.any (fun x => x.toList == n.toList)) := by
  unfold slices_Contains_string_string.f
  refine Ev.bind (slicesIndexStr_ev l n hl) (ev_now ?_)
  exact idxG_nonneg (fun x : ByteArray => x.toList == n.toList) l 0
theorem any_take (l : List ByteArray) (i : Nat) (hi : i < l.length) (n : ByteArray) : (l.take i).any (fun x => x.toList == n.toList) = !(List.range i).all (fun k => !((l.getD k ByteArray.empty).toList == n.toList)) := by
  rw [Bool.eq_iff_iff, Bool.not_eq_true', List.any_eq_true, Bool.eq_false_iff, ne_eq, all_range]
  constructor
  · rintro ⟨x, hx, hp⟩ h
    obtain ⟨q, hq, rfl⟩ := List.getElem_of_mem hx
    have hq' : q < i := by simp at hq; omega
    have := h q hq'
    rw [getD_in (by omega)] at this
    rw [List.getElem_take] at hp
    rw [hp] at this; cases this
  · intro h
    refine Classical.byContradiction (fun hc => h (fun k hk => ?_))
    rw [getD_in (by omega)]
    cases hq : (l[k].toList == n.toList) with
    | false => rfl
    | true =>
      refine absurd ⟨l[k], ?_, hq⟩ hc
      rw [List.mem_take_iff_getElem]
      exact ⟨k, by omega, rfl⟩
/-- What is asked of the kind. -/
def kindOk (f : Field) : Bool :=
  if f.f1 = 1 then decide (-999999 ≤ f.f2 ∧ f.f2 ≤ f.f3 ∧ f.f3 ≤ 999999) && (f.f4.length == 0)
  else if f.f1 = 2 then decide (0 ≤ f.f2 ∧ f.f2 ≤ f.f3 ∧ f.f3 ≤ 40) && (f.f4.length == 0)
  else if f.f1 = 3 then decide (f.f2 = 0 ∧ f.f3 = 0) && decide (1 ≤ (f.f4.length : Int) ∧ (f.f4.length : Int) ≤ 6) && choices f.f4
  else if f.f1 = 4 then decide (f.f2 = 0 ∧ f.f3 = 0) && (f.f4.length == 0) else false
/-- What is asked of the condition, the fields ahead being known. -/
def ifOk (form : List Field) (i : Nat) (n : ByteArray) : Bool := (n.toList == []) || (decide (0 ≤ fidx form n ∧ fidx form n < (i : Int)) && ((form.getD (fidx form n).toNat zF).f1 == 4))
def fieldB (form : List Field) (i : Nat) : Bool :=
  nameB (form.getD i zF).f0 && decide (fidx form (form.getD i zF).f0 = (i : Int)) && decide (1 ≤ (form.getD i zF).f1 ∧ (form.getD i zF).f1 ≤ 4) && ifOk form i (form.getD i zF).f6 && kindOk (form.getD i zF)
theorem specField_ev (form : List Field) (i : Nat) (hi : i < form.length) (hl : form.length ≤ 9223372036854775807) (hf : fine (form.getD i zF)) : Ev (fun k => spec_l23Field.f k form i) (fieldB form i) := by
  unfold spec_l23Field.f
  refine ev_pos (by omega) (ev_pos (by omega) ?_)
  simp only [rd_T69, Int.toNat_natCast, l1In_eq]
  generalize hF : form.getD i z69 = F at *
  have hFB : fieldB form i = (nameB F.f0 && decide (fidx form F.f0 = (i : Int)) && decide (1 ≤ F.f1 ∧ F.f1 ≤ 4) && ifOk form i F.f6 && kindOk F) := by unfold fieldB; rw [show form.getD i zF = F from hF]
  rw [hFB]
  obtain ⟨g0, g4, g4s, g6⟩ := id hf
  have stop : ∀ b, b = false → Ev (fun k => spec_l23Field.j0 k form i true F.f0 F.f1 F.f2 F.f3 F.f4 F.f5 F.f6) b := fun b hb => hb ▸ Ev.step (fun k => rfl) (ev_now rfl)
  refine Ev.bind (l7Name_ev F.f0 g0) (ev_ite (fun h1 => ?_) (fun h1 => stop _ (by simp [h1])))
  refine Ev.bind (l23Find_ev form F.f0 hl) (ev_ite (fun h2 => ?_) (fun h2 => stop _ (by simp [h2])))
  by_cases h3 : 1 ≤ F.f1 ∧ F.f1 ≤ 4
  case neg =>
    show Ev (fun k => spec_l23Field.j0 k form i (!decide (1 ≤ F.f1 ∧ F.f1 ≤ 4)) F.f0 F.f1 F.f2 F.f3 F.f4 F.f5 F.f6) _
    rw [decide_eq_false h3]
    exact stop _ (by simp)
  show Ev (fun k => spec_l23Field.j0 k form i (!decide (1 ≤ F.f1 ∧ F.f1 ≤ 4)) F.f0 F.f1 F.f2 F.f3 F.f4 F.f5 F.f6) _
  rw [decide_eq_true h3]
  have tail : Ev (fun k => spec_l23Field.j1 k F.f0 F.f1 F.f2 F.f3 F.f4 F.f5 F.f6) (kindOk F) := by
    refine Ev.step (fun k => rfl) ?_
    unfold kindOk
    simp only [spec_l23Field.j1, l1In_eq]
    have e0 : ((F.f4.length : Int) == 0) = (F.f4.length == 0) := by
      rw [Bool.eq_iff_iff, beq_iff_eq, beq_iff_eq]; omega
    refine ev_ite (fun k1 => ?_) (fun k1 => ev_ite (fun k2 => ?_) (fun k2 => ev_ite (fun k3 => ?_) (fun k3 => ?_)))
    · rw [if_pos k1]
      refine ev_ite (fun h => ev_ite (fun h' => ev_now ?_) (fun h' => ev_now ?_)) (fun h => ev_now ?_)
      · rw [decide_eq_true_eq] at h; rw [decide_eq_true (show -999999 ≤ F.f2 ∧ F.f2 ≤ F.f3 ∧ F.f3 ≤ 999999 by omega), Bool.true_and, e0]
      · rw [decide_eq_false (show ¬ (-999999 ≤ F.f2 ∧ F.f2 ≤ F.f3 ∧ F.f3 ≤ 999999) by omega), Bool.false_and]
      · rw [decide_eq_true_eq] at h; rw [decide_eq_false (show ¬ (-999999 ≤ F.f2 ∧ F.f2 ≤ F.f3 ∧ F.f3 ≤ 999999) by omega), Bool.false_and]
    · rw [if_neg k1, if_pos k2]
      refine ev_ite (fun h => ev_ite (fun h' => ev_now ?_) (fun h' => ev_now ?_)) (fun h => ev_now ?_)
      · rw [decide_eq_true_eq] at h; rw [decide_eq_true (show 0 ≤ F.f2 ∧ F.f2 ≤ F.f3 ∧ F.f3 ≤ 40 by omega), Bool.true_and, e0]
      · rw [decide_eq_false (show ¬ (0 ≤ F.f2 ∧ F.f2 ≤ F.f3 ∧ F.f3 ≤ 40) by omega), Bool.false_and]
      · rw [decide_eq_true_eq] at h; rw [decide_eq_false (show ¬ (0 ≤ F.f2 ∧ F.f2 ≤ F.f3 ∧ F.f3 ≤ 40) by omega), Bool.false_and]
    · rw [if_neg k1, if_neg k2, if_pos k3]
      refine ev_ite (fun h => ev_ite (fun h' => ev_ite (fun h'' => ?_) (fun h'' => ev_now ?_)) (fun h' => ev_now ?_)) (fun h => ev_now ?_)
      · rw [decide_eq_true (show F.f2 = 0 ∧ F.f3 = 0 from ⟨h, h'⟩), h'', Bool.true_and, Bool.true_and]
        exact Ev.bind (l23Names_ev F.f4 g4 g4s) (ev_now rfl)
      · rw [decide_eq_true (show F.f2 = 0 ∧ F.f3 = 0 from ⟨h, h'⟩), Bool.eq_false_iff.2 h'']; rfl
      · rw [decide_eq_false (show ¬ (F.f2 = 0 ∧ F.f3 = 0) by omega)]; rfl
      · rw [decide_eq_false (show ¬ (F.f2 = 0 ∧ F.f3 = 0) by omega)]; rfl
    · rw [if_neg k1, if_neg k2, if_neg k3, if_pos (show F.f1 = 4 by omega)]
      refine ev_ite (fun h => ev_ite (fun h' => ev_now ?_) (fun h' => ev_now ?_)) (fun h => ev_now ?_)
      · rw [decide_eq_true (show F.f2 = 0 ∧ F.f3 = 0 from ⟨h, h'⟩), Bool.true_and, e0]
      · rw [decide_eq_false (show ¬ (F.f2 = 0 ∧ F.f3 = 0) by omega)]; rfl
      · rw [decide_eq_false (show ¬ (F.f2 = 0 ∧ F.f3 = 0) by omega)]; rfl
  rw [h1, decide_eq_true h2, Bool.true_and, Bool.true_and, Bool.true_and]
  refine Ev.step (fun k => rfl) ?_
  show Ev (fun k => if F.f6.toList = ([] : List UInt8) then _ else _) _
  unfold ifOk
  refine ev_ite (fun h4 => ev_cast tail (by simp [h4])) (fun h4 => ?_)
  have h4' : (F.f6.toList == []) = false := by simpa using h4
  rw [h4', Bool.false_or]
  refine Ev.bind (l23Find_ev form F.f6 hl) (ev_ite (fun h5 => ev_now ?_) (fun h5 => ev_ite (fun h6 => ev_now ?_) (fun h6 => ?_)))
  · rw [decide_eq_false (by omega), Bool.false_and, Bool.false_and]
  · rw [decide_eq_false (by omega), Bool.false_and, Bool.false_and]
  · refine ev_pos (by omega) (ev_pos (by omega) ?_)
    simp only [rd_T69]
    rw [decide_eq_true (show 0 ≤ fidx form F.f6 ∧ fidx form F.f6 < (i : Int) by omega), Bool.true_and]
    refine ev_ite (fun h7 => ev_cast tail ?_) (fun h7 => ev_now ?_)
    · show kindOk F = (((form.getD (fidx form F.f6).toNat z69).f1 == 4) && kindOk F)
      rw [h7]; rfl
    · show false = (((form.getD (fidx form F.f6).toNat z69).f1 == 4) && kindOk F)
      rw [show ((form.getD (fidx form F.f6).toNat z69).f1 == 4) = false from by simpa using h7]; rfl
def formB (form : List Field) : Bool := decide ((form.length : Int) ≤ 10) && (List.range form.length).all (fieldB form)
theorem specForm_ev (form : List Field) (hl : form.length ≤ 9223372036854775807) (hf : ∀ f ∈ form, fine f) : Ev (fun k => spec_l23Good.f k form) (formB form) := by
  unfold spec_l23Good.f
  refine ev_ite (fun h => ev_now ?_) (fun h => ?_)
  · unfold formB; rw [decide_eq_false (by omega), Bool.false_and]
  unfold formB
  rw [decide_eq_true (by omega), Bool.true_and]
  have h := ev_all0 (L := fun k i => spec_l23Good.l0 k form i) form.length (fieldB form) false true (fun _ => Ev.step (fun k => rfl) (ev_neg (by omega) (ev_now rfl))) ?h1 ?h2
  case h1 =>
    intro i hi _ hc y hy
    refine Ev.step (fun k => rfl) (ev_pos (by omega) (Ev.bind (specField_ev form i hi hl (hf _ (by rw [getD_in hi]; exact List.getElem_mem hi))) (ev_pos hc ?_)))
    rw [wrap_succ hi hl]; exact hy
  case h2 =>
    intro i hi _ hc
    exact Ev.step (fun k => rfl) (ev_pos (by omega) (Ev.bind (specField_ev form i hi hl (hf _ (by rw [getD_in hi]; exact List.getElem_mem hi))) (ev_neg (by rw [hc]; simp) (ev_now rfl))))
  refine ev_cast h ?_
  cases (List.range form.length).all (fieldB form) <;> rfl
end Go.Proofs.YtdogpphfofimeaaDoor.X
set_option linter.unusedVariables false
set_option linter.unusedSimpArgs false
namespace Go.Proofs.YtdogpphfofimeaaDoor.X
open Go.RowKit Go.Proofs.YtdogpphfofimeaaDoorW.PrintWords Go.Proofs.YtdogpphfofimeaaDoor.E
theorem choiceLoop_ev (F : Field) (hF : fine F) :
    Ev (fun k => impl_isField.l0 k F.f4 (F.f4.length : Int) 0 F.f0 F.f1 F.f2 F.f3 F.f4 F.f5 F.f6) (decide (F.f2 = 0 ∧ F.f3 = 0) && decide (1 ≤ (F.f4.length : Int) ∧ (F.f4.length : Int) ≤ 6) && choices F.f4) := by
  obtain ⟨g0, g4, g4s, g6⟩ := hF
  have h := ev_all0 (L := fun k i => impl_isField.l0 k F.f4 (F.f4.length : Int) i F.f0 F.f1 F.f2 F.f3 F.f4 F.f5 F.f6) F.f4.length (choiceAt F.f4) false
    (decide (F.f2 = 0 ∧ F.f3 = 0) && decide (1 ≤ (F.f4.length : Int) ∧ (F.f4.length : Int) ≤ 6)) (fun _ => Ev.step (fun k => rfl) (ev_neg (by omega) ?h0)) ?h1 ?h2
  case h0 =>
    simp only [within_eq]
    refine ev_ite (fun h => ev_ite (fun h' => ev_now ?_) (fun h' => ev_now ?_)) (fun h => ev_now ?_)
    · rw [h, Bool.and_true]
      rw [Bool.eq_iff_iff, beq_iff_eq, decide_eq_true_eq]
      exact ⟨fun e => ⟨h', e⟩, fun e => e.2⟩
    · rw [decide_eq_false (show ¬ (F.f2 = 0 ∧ F.f3 = 0) by omega), Bool.false_and]
    · rw [Bool.eq_false_iff.2 h, Bool.and_false]
  case h1 =>
    intro i hi _ hc y hy
    simp only [choiceAt, Bool.and_eq_true] at hc
    refine Ev.step (fun k => rfl) (ev_pos (by omega) (ev_pos (by omega) (ev_pos (by omega) ?_)))
    simp only [rdOf, Int.toNat_natCast]
    refine Ev.bind (isName_ev _ (by rw [getD_in hi]; exact g4s _ (List.getElem_mem hi))) (ev_pos hc.1 (ev_pos (by omega) ?_))
    refine Ev.bind (slicesContainsStr_ev _ _ (by simp; omega)) (ev_neg ?_ ?_)
    · rw [any_take _ _ hi, hc.2]; simp
    · rw [wrap_succ hi g4]; exact hy
  case h2 =>
    intro i hi _ hc
    refine Ev.step (fun k => rfl) (ev_pos (by omega) (ev_pos (by omega) (ev_pos (by omega) ?_)))
    simp only [rdOf, Int.toNat_natCast]
    refine Ev.bind (isName_ev _ (by rw [getD_in hi]; exact g4s _ (List.getElem_mem hi))) (ev_ite (fun h1 => ev_pos (by omega) ?_) (fun _ => ev_now rfl))
    refine Ev.bind (slicesContainsStr_ev _ _ (by simp; omega)) (ev_pos ?_ (ev_now rfl))
    rw [any_take _ _ hi]
    unfold choiceAt at hc
    rw [h1, Bool.true_and] at hc
    rw [hc]; rfl
  refine ev_cast h ?_
  unfold choices
  cases (List.range F.f4.length).all (choiceAt F.f4) <;> simp
theorem kindSwitch_ev (F : Field) (hF : fine F) : Ev (fun k => impl_isField.j1 k false F.f0 F.f1 F.f2 F.f3 F.f4 F.f5 F.f6) (decide (1 ≤ F.f1 ∧ F.f1 ≤ 4) && kindOk F) := by
  have e0 : decide ((F.f4.length : Int) > 0) = !(F.f4.length == 0) := by
    cases h : (F.f4.length == 0)
    · have : ¬ F.f4.length = 0 := by simpa using h
      rw [decide_eq_true (by omega)]; rfl
    · have : F.f4.length = 0 := by simpa using h
      rw [decide_eq_false (by omega)]; rfl
  have bad : Ev (fun k => impl_isField.j2 k true F.f0 F.f1 F.f2 F.f3 F.f4 F.f5 F.f6) false := Ev.step (fun k => rfl) (ev_now rfl)
  refine Ev.step (fun k => rfl) ?_
  show Ev (fun k => if F.f1 = 3 then impl_isField.j2 k false F.f0 F.f1 F.f2 F.f3 F.f4 F.f5 F.f6 else impl_isField.j2 k (decide ((F.f4.length : Int) > 0)) F.f0 F.f1 F.f2 F.f3 F.f4 F.f5 F.f6) _
  have sw : F.f1 = 3 ∨ (F.f4.length == 0) = true → Ev (fun k => impl_isField.j2 k false F.f0 F.f1 F.f2 F.f3 F.f4 F.f5 F.f6) (decide (1 ≤ F.f1 ∧ F.f1 ≤ 4) && kindOk F) := by
    intro hz
    refine Ev.step (fun k => rfl) ?_
    show Ev (fun k => if F.f1 = 1 then _ else _) _
    unfold kindOk
    refine ev_ite (fun k1 => ?_) (fun k1 => ev_ite (fun k2 => ?_) (fun k2 => ev_ite (fun k3 => ?_) (fun k3 => ev_ite (fun k4 => ?_) (fun k4 => ev_now ?_))))
    · rw [if_pos k1, decide_eq_true (show 1 ≤ F.f1 ∧ F.f1 ≤ 4 by omega), Bool.true_and, show (F.f4.length == 0) = true from hz.resolve_left (by omega), Bool.and_true]
      refine ev_ite (fun h => ev_ite (fun h' => ev_now ?_) (fun h' => ev_now ?_)) (fun h => ev_now ?_)
      · rw [Bool.eq_iff_iff, decide_eq_true_eq, decide_eq_true_eq]; omega
      · rw [decide_eq_false (by omega)]
      · rw [decide_eq_false (by omega)]
    · rw [if_neg k1, if_pos k2, decide_eq_true (show 1 ≤ F.f1 ∧ F.f1 ≤ 4 by omega), Bool.true_and, show (F.f4.length == 0) = true from hz.resolve_left (by omega), Bool.and_true]
      refine ev_ite (fun h => ev_ite (fun h' => ev_now ?_) (fun h' => ev_now ?_)) (fun h => ev_now ?_)
      · rw [Bool.eq_iff_iff, decide_eq_true_eq, decide_eq_true_eq]; omega
      · rw [decide_eq_false (by omega)]
      · rw [decide_eq_false (by omega)]
    · rw [if_neg k1, if_neg k2, if_pos k3, decide_eq_true (show 1 ≤ F.f1 ∧ F.f1 ≤ 4 by omega), Bool.true_and]
      exact choiceLoop_ev F hF
    · rw [if_neg k1, if_neg k2, if_neg k3, if_pos k4, decide_eq_true (show 1 ≤ F.f1 ∧ F.f1 ≤ 4 by omega), Bool.true_and, show (F.f4.length == 0) = true from hz.resolve_left (by omega), Bool.and_true]
      refine ev_ite (fun h => ev_now ?_) (fun h => ev_now ?_)
      · rw [Bool.eq_iff_iff, beq_iff_eq, decide_eq_true_eq]; exact ⟨fun e => ⟨h, e⟩, fun e => e.2⟩
      · rw [decide_eq_false (by omega)]
    · rw [decide_eq_false (show ¬ (1 ≤ F.f1 ∧ F.f1 ≤ 4) by omega), Bool.false_and]
  refine ev_ite (fun h3 => sw (.inl h3)) (fun h3 => ?_)
  rw [e0]
  cases hz : (F.f4.length == 0) with
  | true => exact sw (.inr hz)
  | false =>
    refine ev_cast bad ?_
    unfold kindOk
    rw [hz, if_neg h3]
    simp
theorem implField_ev (form : List Field) (i : Nat) (hi : i < form.length) (hl : form.length ≤ 9223372036854775807) (hf : fine (form.getD i zF)) :
    Ev (fun k => impl_isField.f k (form.take i) (form.getD i zF).f0 (form.getD i zF).f1 (form.getD i zF).f2 (form.getD i zF).f3 (form.getD i zF).f4 (form.getD i zF).f5 (form.getD i zF).f6) (fieldB form i) := by
  have hself : form[i]? = some (form.getD i zF) := by rw [getD_in hi, List.getElem?_eq_getElem hi]
  have hfirst := idxG_first (p := fun x : Field => x.f0.toList == (form.getD i zF).f0.toList) hself (by simp)
  have hFB : fieldB form i = (nameB (form.getD i zF).f0 && decide (fidx form (form.getD i zF).f0 = (i : Int)) && decide (1 ≤ (form.getD i zF).f1 ∧ (form.getD i zF).f1 ≤ 4) && ifOk form i (form.getD i zF).f6 && kindOk (form.getD i zF)) := rfl
  rw [hFB]
  clear hFB hself
  generalize form.getD i zF = F at *
  obtain ⟨g0, g4, g4s, g6⟩ := id hf
  have stop : ∀ b, b = false → Ev (fun k => impl_isField.j0 k (form.take i) true F.f0 F.f1 F.f2 F.f3 F.f4 F.f5 F.f6) b := fun b hb => hb ▸ Ev.step (fun k => rfl) (ev_now rfl)
  unfold impl_isField.f
  simp only [fieldOf_eq]
  refine Ev.bind (isName_ev F.f0 g0) (ev_ite (fun h1 => ?_) (fun h1 => stop _ (by simp [h1])))
  show Ev (fun k => impl_isField.j0 k (form.take i) (decide (fidx (form.take i) F.f0 ≥ 0)) F.f0 F.f1 F.f2 F.f3 F.f4 F.f5 F.f6) _
  by_cases h2 : fidx form F.f0 = (i : Int)
  case neg =>
    have h2' : ¬ fidx (form.take i) F.f0 < 0 := fun h => h2 (hfirst.2 h)
    rw [decide_eq_true (show fidx (form.take i) F.f0 ≥ 0 by omega)]
    exact stop _ (by simp [h2])
  have h2' := hfirst.1 h2
  rw [decide_eq_false (show ¬ fidx (form.take i) F.f0 ≥ 0 from by have : fidx (form.take i) F.f0 < 0 := h2'; omega)]
  rw [h1, decide_eq_true h2, Bool.true_and, Bool.true_and]
  have bad : ∀ b, b = false → Ev (fun k => impl_isField.j1 k true F.f0 F.f1 F.f2 F.f3 F.f4 F.f5 F.f6) b := fun b hb => hb ▸ Ev.step (fun k => rfl) (ev_now rfl)
  have good := kindSwitch_ev F hf
  refine Ev.step (fun k => rfl) ?_
  simp only [impl_isField.j0]
  refine ev_neg (by simp) (ev_bind0 (fieldOf_eq _ _) ?_)
  unfold ifOk
  refine ev_ite (fun h4 => ev_cast good (by simp [h4])) (fun h4 => ?_)
  have h4' : (F.f6.toList == []) = false := by simpa using h4
  rw [h4', Bool.false_or]
  have hif : fidx (form.take i) F.f6 = if ((0 : Nat) : Int) ≤ fidx form F.f6 ∧ fidx form F.f6 < ((0 + i : Nat) : Int) then fidx form F.f6 else -1 := idxG_take _ form 0 i
  refine ev_ite (fun h5 => bad _ ?_) (fun h5 => ?_)
  · have : ¬ (0 ≤ fidx form F.f6 ∧ fidx form F.f6 < (i : Int)) := by
      intro h
      rw [hif, if_pos (by omega)] at h5
      omega
    rw [decide_eq_false this]; simp
  · have hr : 0 ≤ fidx form F.f6 ∧ fidx form F.f6 < (i : Int) := by
      refine Classical.byContradiction (fun h => ?_)
      rw [hif, if_neg (by omega)] at h5
      omega
    have he : fidx (form.take i) F.f6 = fidx form F.f6 := by rw [hif, if_pos (by omega)]
    rw [decide_eq_true hr, Bool.true_and]
    have hlen : (form.take i).length = i := by simp; omega
    refine ev_pos (by omega) (ev_pos (by rw [he, hlen]; omega) ?_)
    have hrd : rd_T69 (form.take i) (fidx (form.take i) F.f6) = form.getD (fidx form F.f6).toNat zF := by
      unfold rd_T69
      rw [he, getD_in (by rw [hlen]; omega), List.getElem_take, getD_in (by omega)]
    simp only [hrd]
    by_cases h7 : (form.getD (fidx form F.f6).toNat zF).f1 = 4
    · have e : ((form.getD (fidx form F.f6).toNat zF).f1 != 4) = false := bne_eq_false_iff_eq.mpr h7
      rw [e, h7]
      exact ev_cast good (by simp)
    · have e : ((form.getD (fidx form F.f6).toNat zF).f1 != 4) = true := bne_iff_ne.mpr h7
      rw [e]
      rw [show ((form.getD (fidx form F.f6).toNat zF).f1 == 4) = false from beq_eq_false_iff_ne.mpr h7]
      exact bad _ (by simp)
theorem implForm_ev (form : List Field) (hl : form.length ≤ 9223372036854775807) (hf : ∀ f ∈ form, fine f) : Ev (fun k => impl_IsValidForm.f k form) (formB form) := by
  have h := ev_all0 (L := fun k i => impl_IsValidForm.l0 k form form (form.length : Int) i) form.length (fieldB form) false (decide ((form.length : Int) ≤ 10)) (fun _ => Ev.step (fun k => rfl) (ev_neg (by omega) (ev_now rfl))) ?h1 ?h2
  case h1 =>
    intro i hi _ hc y hy
    refine Ev.step (fun k => rfl) (ev_pos (by omega) (ev_pos (by omega) (ev_pos (by omega) (ev_pos (by omega) ?_))))
    simp only [rd_T69, Int.toNat_natCast]
    refine Ev.bind (implField_ev form i hi hl (hf _ (by rw [getD_in hi]; exact List.getElem_mem hi))) (ev_pos hc ?_)
    rw [wrap_succ hi hl]; exact hy
  case h2 =>
    intro i hi _ hc
    refine Ev.step (fun k => rfl) (ev_pos (by omega) (ev_pos (by omega) (ev_pos (by omega) (ev_pos (by omega) ?_))))
    simp only [rd_T69, Int.toNat_natCast]
    exact Ev.bind (implField_ev form i hi hl (hf _ (by rw [getD_in hi]; exact List.getElem_mem hi))) (ev_neg (by rw [hc]; simp) (ev_now rfl))
  refine ev_cast h ?_
  unfold formB
  cases (List.range form.length).all (fieldB form) <;> simp
end Go.Proofs.YtdogpphfofimeaaDoor.X
set_option linter.unusedVariables false
set_option linter.unusedSimpArgs false
namespace Go.Proofs.YtdogpphfofimeaaDoor.X
open Go.RowKit Go.Proofs.YtdogpphfofimeaaDoorW.PrintWords Go.Proofs.YtdogpphfofimeaaDoor.E
abbrev Answer := S58
def fineA (a : Answer) : Prop := a.f0.size ≤ 9223372036854775807 ∧ a.f1.size ≤ 9223372036854775807
/-- The place of the last answered field ahead. -/
def lastI (form : List Field) (ans : List Answer) (i : Nat) : Int := if i = 0 then -1 else fidx form (ans.getD (i - 1) z58).f0
theorem lastI_succ (form : List Field) (ans : List Answer) (i : Nat) : lastI form ans (i + 1) = fidx form (ans.getD i z58).f0 := by
  unfold lastI
  rw [if_neg (by omega), Nat.add_sub_cancel]
def ansAt (form : List Field) (ans : List Answer) (i : Nat) : Bool := decide (lastI form ans i < fidx form (ans.getD i z58).f0) && textB (ans.getD i z58).f1
def ansB (form : List Field) (ans : List Answer) : Bool := formB form && (List.range ans.length).all (ansAt form ans)
theorem ans_short {form : List Field} {ans : List Answer} (h : (List.range ans.length).all (ansAt form ans) = true) : ans.length ≤ form.length := by
  have h' := all_range.1 h
  have low : ∀ i, i ≤ ans.length → (i : Int) - 1 ≤ lastI form ans i := by
    intro i
    induction i with
    | zero => intro _; simp [lastI]
    | succ i ih =>
      intro hi
      have h1 := ih (by omega)
      have h2 := h' i (by omega)
      simp only [ansAt, Bool.and_eq_true, decide_eq_true_eq] at h2
      rw [lastI_succ]
      omega
  rcases Nat.eq_zero_or_pos ans.length with e | e
  · omega
  · have h1 := low ans.length (Nat.le_refl _)
    have h3 : lastI form ans ans.length < (form.length : Int) := by
      rw [show ans.length = (ans.length - 1) + 1 from by omega, lastI_succ]
      rcases idxG_range (fun x : Field => x.f0.toList == (ans.getD (ans.length - 1) z58).f0.toList) form with h | h
      · show fidx form _ < _
        rw [fidx, h]; omega
      · exact h.2
    omega
theorem implAnswers_ev (form : List Field) (ans : List Answer) (hl : form.length ≤ 9223372036854775807) (hf : ∀ f ∈ form, fine f) (hla : ans.length ≤ 9223372036854775807) (ha : ∀ a ∈ ans, fineA a) :
    Ev (fun k => impl_IsValidAnswers.f k form ans) (ansB form ans) := by
  have h := ev_all (L := fun k (s : Int) i => impl_IsValidAnswers.l0 k form s ans (ans.length : Int) i) ans.length (lastI form ans) (ansAt form ans) false (formB form)
    (fun _ => Ev.step (fun k => rfl) (ev_neg (by omega) (Ev.bind (implForm_ev form hl hf) (ev_now rfl)))) ?h1 ?h2
  case h1 =>
    intro i hi _ hc y hy
    simp only [ansAt, Bool.and_eq_true, decide_eq_true_eq] at hc
    have hfa := ha _ (List.getElem_mem hi)
    rw [← getD_in hi z58] at hfa
    refine Ev.step (fun k => rfl) (ev_pos (by omega) (ev_pos (by omega) (ev_pos (by omega) ?_)))
    simp only [rd_T58, Int.toNat_natCast, fieldOf_eq]
    refine ev_some (ev_neg (by omega) (Ev.bind (isText_ev _ hfa.2) (ev_pos hc.2 ?_)))
    rw [wrap_succ hi hla]
    rw [lastI_succ] at hy
    exact hy
  case h2 =>
    intro i hi _ hc
    have hfa := ha _ (List.getElem_mem hi)
    rw [← getD_in hi z58] at hfa
    refine Ev.step (fun k => rfl) (ev_pos (by omega) (ev_pos (by omega) (ev_pos (by omega) ?_)))
    simp only [rd_T58, Int.toNat_natCast, fieldOf_eq]
    refine ev_some (ev_ite (fun _ => ev_now rfl) (fun h1 => Ev.bind (isText_ev _ hfa.2) (ev_neg ?_ (ev_now rfl))))
    intro h2
    have : ansAt form ans i = true := by
      simp only [ansAt, Bool.and_eq_true, decide_eq_true_eq]
      exact ⟨by omega, h2⟩
    rw [this] at hc; cases hc
  refine ev_cast h ?_
  unfold ansB
  cases (List.range ans.length).all (ansAt form ans) <;> simp
theorem specAnswers_ev (form : List Field) (ans : List Answer) (hl : form.length ≤ 9223372036854775807) (hf : ∀ f ∈ form, fine f) (hla : ans.length ≤ 9223372036854775807) (ha : ∀ a ∈ ans, fineA a) :
    Ev (fun k => spec_l23Answers.f k form ans) (ansB form ans) := by
  unfold spec_l23Answers.f
  refine Ev.bind (specForm_ev form hl hf) ?_
  unfold ansB
  have stop : ∀ b, b = false → Ev (fun k => spec_l23Answers.j0 k form ans true) b := fun b hb => hb ▸ Ev.step (fun k => rfl) (ev_now rfl)
  refine ev_ite (fun h1 => ?_) (fun h1 => stop _ (by simp [h1]))
  rw [h1, Bool.true_and]
  by_cases h2 : (ans.length : Int) > (form.length : Int)
  · rw [decide_eq_true h2]
    refine stop _ ?_
    rw [Bool.eq_false_iff]
    intro h
    have := ans_short h
    omega
  rw [decide_eq_false h2]
  refine Ev.step (fun k => rfl) ?_
  simp only [spec_l23Answers.j0]
  refine ev_neg (by simp) ?_
  have h := ev_all (L := fun k (s : Int) i => spec_l23Answers.l0 k form ans s i) ans.length (lastI form ans) (ansAt form ans) false true
    (fun _ => Ev.step (fun k => rfl) (ev_neg (by omega) (ev_now rfl))) ?h1 ?h2
  case h1 =>
    intro i hi _ hc y hy
    simp only [ansAt, Bool.and_eq_true, decide_eq_true_eq] at hc
    have hfa := ha _ (List.getElem_mem hi)
    rw [← getD_in hi z58] at hfa
    refine Ev.step (fun k => rfl) (ev_pos (by omega) (ev_pos (by omega) ?_))
    simp only [rd_T58, Int.toNat_natCast]
    refine Ev.bind (l23Find_ev form _ hl) (ev_neg (by omega) (Ev.bind (l21Text_ev _ hfa.2) (ev_pos hc.2 ?_)))
    rw [wrap_succ hi hla]
    rw [lastI_succ] at hy
    exact hy
  case h2 =>
    intro i hi _ hc
    have hfa := ha _ (List.getElem_mem hi)
    rw [← getD_in hi z58] at hfa
    refine Ev.step (fun k => rfl) (ev_pos (by omega) (ev_pos (by omega) ?_))
    simp only [rd_T58, Int.toNat_natCast]
    refine Ev.bind (l23Find_ev form _ hl) (ev_ite (fun _ => ev_now rfl) (fun h1 => Ev.bind (l21Text_ev _ hfa.2) (ev_neg ?_ (ev_now rfl))))
    intro h2
    have : ansAt form ans i = true := by
      simp only [ansAt, Bool.and_eq_true, decide_eq_true_eq]
      exact ⟨by omega, h2⟩
    rw [this] at hc; cases hc
  refine ev_cast h ?_
  cases (List.range ans.length).all (ansAt form ans) <;> rfl
end Go.Proofs.YtdogpphfofimeaaDoor.X
set_option linter.unusedVariables false
set_option linter.unusedSimpArgs false
namespace Go.Proofs.YtdogpphfofimeaaDoor.X
open Go.RowKit Go.Proofs.YtdogpphfofimeaaDoorW.PrintWords Go.Proofs.YtdogpphfofimeaaDoor.E
abbrev zA : Answer := z58
/-- The place of an answer's field. -/
abbrev pos (form : List Field) (ans : List Answer) (i : Nat) : Int := fidx form (ans.getD i zA).f0
structure Valid (form : List Field) (ans : List Answer) : Prop where
  len : form.length ≤ 10
  name : ∀ j, j < form.length → fidx form (form.getD j zF).f0 = (j : Int)
  up : ∀ i, i < ans.length → lastI form ans i < pos form ans i
  fld : ∀ j, j < form.length → fieldB form j = true
  txt : ∀ i, i < ans.length → textB (ans.getD i zA).f1 = true
theorem valid_of {form : List Field} {ans : List Answer} (h : ansB form ans = true) : Valid form ans := by
  unfold ansB formB at h
  rw [Bool.and_eq_true, Bool.and_eq_true, decide_eq_true_eq, all_range, all_range] at h
  obtain ⟨⟨h1, h2⟩, h3⟩ := h
  refine ⟨by omega, fun j hj => ?_, fun i hi => ?_, h2, fun i hi => ?_⟩
  · have := h2 j hj
    unfold fieldB at this
    simp only [Bool.and_eq_true, decide_eq_true_eq] at this
    exact this.1.1.1.2
  · have := h3 i hi
    unfold ansAt at this
    rw [Bool.and_eq_true, decide_eq_true_eq] at this
    exact this.1
  · have := h3 i hi
    unfold ansAt at this
    rw [Bool.and_eq_true] at this
    exact this.2
/-- The answer to a field, as both look it up. -/
def look (ans : List Answer) (n : ByteArray) : Option Answer := ans.find? (fun x => x.f0.toList == n.toList)
end Go.Proofs.YtdogpphfofimeaaDoor.X
set_option linter.unusedVariables false
set_option linter.unusedSimpArgs false
namespace Go.Proofs.YtdogpphfofimeaaDoor.X
open Go.RowKit Go.Proofs.YtdogpphfofimeaaDoorW.PrintWords Go.Proofs.YtdogpphfofimeaaDoor.E
def txtOf (ans : List Answer) (n : ByteArray) : ByteArray := match look ans n with
  | some x => x.f1
  | none => ⟨#[]⟩
def visAt (form : List Field) (ans : List Answer) (V : List Bool) (i : Nat) : Bool := if (form.getD i zF).f6.toList = ([] : List UInt8) then true else (if rdOf false V (fidx form (form.getD i zF).f6) = true then ((txtOf ans (form.getD i zF).f6).toList == ([121, 101, 115] : List UInt8)) else false)
def visL (form : List Field) (ans : List Answer) : Nat → List Bool
  | 0 => []
  | i + 1 => visL form ans i ++ [visAt form ans (visL form ans i) i]
theorem visL_length (form : List Field) (ans : List Answer) : ∀ i, (visL form ans i).length = i
  | 0 => rfl
  | i + 1 => by rw [visL, List.length_append, visL_length form ans i, List.length_singleton]
theorem if_at {form : List Field} {ans : List Answer} (V : Valid form ans) {i : Nat} (hi : i < form.length) (h : ¬ (form.getD i zF).f6.toList = ([] : List UInt8)) : ∃ q : Nat, fidx form (form.getD i zF).f6 = (q : Int) ∧ q < i := by
  have h1 := V.fld i hi
  unfold fieldB at h1
  simp only [Bool.and_eq_true] at h1
  have h2 := h1.1.2
  unfold ifOk at h2
  rw [Bool.or_eq_true, Bool.and_eq_true, decide_eq_true_eq] at h2
  rcases h2 with h2 | h2
  · exact absurd (by simpa using h2) h
  · exact ⟨(fidx form (form.getD i zF).f6).toNat, by omega, by omega⟩
theorem answerOf_eq (ans : List Answer) (n : ByteArray) : ∃ b, impl_answerOf.f ans n = some (txtOf ans n, b) ∧ b = (look ans n).isSome := by
  unfold impl_answerOf.f txtOf look
  cases ans.find? (fun y => y.f0.toList == n.toList) with
  | none => exact ⟨_, rfl, rfl⟩
  | some a => exact ⟨_, rfl, rfl⟩
theorem l23Text_ev (ans : List Answer) (n : ByteArray) (hl : ans.length ≤ 9223372036854775807) : Ev (fun k => spec_l23Text.f k ans n) (txtOf ans n, (look ans n).isSome) := by
  have h := ev_walk (L := fun k i => spec_l23Text.l0 k ans n i) (G := fun i r => ((match look r n with | some x => x.f1 | none => (⟨#[]⟩ : ByteArray)), (look r n).isSome)) ans (Ev.step (fun k => rfl) (ev_neg (by omega) (ev_now rfl))) ?step
  case step =>
    intro i x r hi hd hx hk
    refine Ev.step (fun k => rfl) (ev_pos (by omega) (ev_pos (by omega) ?_))
    simp only [rd_T58, Int.toNat_natCast, hx]
    by_cases c : x.f0.toList = n.toList
    · exact ev_pos c (ev_now (by simp [look, c]))
    · refine ev_neg c ?_
      rw [wrap_succ hi hl]
      have e : look (x :: r) n = look r n := by unfold look; rw [List.find?_cons_of_neg (by simpa using c)]
      rw [e]
      exact hk
  exact h
theorem implVis_ev (form : List Field) (ans : List Answer) (V : Valid form ans) : Ev (fun k => impl_visible.f k form ans) (visL form ans form.length) := by
  have hlen := V.len
  have h := ev_all (L := fun k (s : List Bool) i => impl_visible.l0 k form ans s form (form.length : Int) i) form.length (fun i => visL form ans i ++ List.replicate (form.length - i) false) (fun _ => true) [] (visL form ans form.length) ?h0 ?h1 (fun i hi _ hc => nomatch hc)
  case h0 =>
    intro _
    refine Ev.step (fun k => rfl) (ev_neg (by omega) (ev_now ?_))
    rw [Nat.sub_self, List.replicate_zero, List.append_nil]
  case h1 =>
    intro i hi _ _ y hy
    have hvl := visL_length form ans i
    have hsl : (visL form ans i ++ List.replicate (form.length - i) false).length = form.length := by rw [List.length_append, hvl, List.length_replicate]; omega
    have hset : ∀ b, (visL form ans i ++ List.replicate (form.length - i) false).set i b = (visL form ans i ++ [b]) ++ List.replicate (form.length - (i + 1)) false := by
      intro b
      rw [List.set_append_right _ _ (by omega), hvl, Nat.sub_self, show form.length - i = (form.length - (i + 1)) + 1 by omega, List.replicate_succ, List.set_cons_zero, List.append_assoc]
      rfl
    have hgo : ∀ b, b = visAt form ans (visL form ans i) i → Ev (fun k => impl_visible.l0 k form ans ((visL form ans i ++ List.replicate (form.length - i) false).set (i : Int).toNat b) form (form.length : Int) (wrap64 ((i : Int) + 1))) y := by
      intro b hb
      rw [Int.toNat_natCast, hset, wrap_succ hi (by omega), hb]
      exact hy
    refine Ev.step (fun k => rfl) (ev_pos (by omega) (ev_pos (by omega) (ev_pos (by omega) ?_)))
    simp only [rd_T69, Int.toNat_natCast]
    by_cases c : (form.getD i zF).f6.toList = ([] : List UInt8)
    · refine ev_pos c (ev_pos (by rw [hsl]; omega) ?_)
      exact hgo true (by unfold visAt; rw [if_pos c])
    · refine ev_neg c ?_
      obtain ⟨b, hb, _⟩ := answerOf_eq ans (form.getD i zF).f6
      obtain ⟨q, hq, hqi⟩ := if_at V hi c
      refine ev_bind0 hb (ev_bind0 (fieldOf_eq _ _) ?_)
      rw [show fidx form (form.getD i zF).f6 = (q : Int) from hq]
      have hr : rdOf false (visL form ans i ++ List.replicate (form.length - i) false) (q : Int) = rdOf false (visL form ans i) (q : Int) := by
        unfold rdOf
        rw [Int.toNat_natCast, List.getD_eq_getElem?_getD, List.getD_eq_getElem?_getD, List.getElem?_append_left (by omega)]
      rw [hr]
      refine ev_pos (by omega) (ev_pos (by rw [hsl]; omega) ?_)
      by_cases d : rdOf false (visL form ans i) (q : Int) = true
      · refine ev_pos d (ev_pos (by rw [hsl]; omega) ?_)
        exact hgo _ (by unfold visAt; rw [if_neg c, hq, if_pos d])
      · refine ev_neg d (ev_pos (by rw [hsl]; omega) ?_)
        exact hgo false (by unfold visAt; rw [if_neg c, hq, if_neg d])
  unfold impl_visible.f
  rw [Int.toNat_natCast]
  refine ev_pos (by omega) (ev_pos (by omega) ?_)
  rw [if_pos (by rw [all_range]; intro i hi; rfl)] at h
  exact h
theorem specVis_ev (form : List Field) (ans : List Answer) (V : Valid form ans) (hla : ans.length ≤ 9223372036854775807) : Ev (fun k => spec_l23Visible.f k form ans) (visL form ans form.length) := by
  have hlen := V.len
  have h := ev_all (L := fun k (s : List Bool) i => spec_l23Visible.l0 k form ans s i) form.length (fun i => visL form ans i) (fun _ => true) [] (visL form ans form.length) ?h0 ?h1 (fun i hi _ hc => nomatch hc)
  case h0 =>
    intro _
    exact Ev.step (fun k => rfl) (ev_neg (by omega) (ev_now rfl))
  case h1 =>
    intro i hi _ _ y hy
    have hvl := visL_length form ans i
    have hgo : ∀ b, b = visAt form ans (visL form ans i) i → Ev (fun k => spec_l23Visible.l0 k form ans (visL form ans i ++ [b]) (wrap64 ((i : Int) + 1))) y := by
      intro b hb
      rw [wrap_succ hi (by omega), hb]
      exact hy
    refine Ev.step (fun k => rfl) (ev_pos (by omega) (ev_pos (by omega) ?_))
    simp only [rd_T69, Int.toNat_natCast]
    by_cases c : (form.getD i zF).f6.toList = ([] : List UInt8)
    · refine ev_pos c (ev_pos (by rw [hvl]; omega) ?_)
      exact hgo true (by unfold visAt; rw [if_pos c])
    · refine ev_neg c ?_
      obtain ⟨q, hq, hqi⟩ := if_at V hi c
      refine Ev.bind (l23Text_ev ans _ hla) (Ev.bind (l23Find_ev form _ (by omega)) ?_)
      rw [show fidx form (form.getD i zF).f6 = (q : Int) from hq]
      refine ev_pos (by omega) (ev_pos (by rw [hvl]; omega) ?_)
      by_cases d : rdOf false (visL form ans i) (q : Int) = true
      · refine ev_pos d (ev_pos (by rw [hvl]; omega) ?_)
        exact hgo _ (by unfold visAt; rw [if_neg c, hq, if_pos d])
      · refine ev_neg d (ev_pos (by rw [hvl]; omega) ?_)
        exact hgo false (by unfold visAt; rw [if_neg c, hq, if_neg d])
  unfold spec_l23Visible.f
  rw [if_pos (by rw [all_range]; intro i hi; rfl)] at h
  exact h
end Go.Proofs.YtdogpphfofimeaaDoor.X
set_option linter.unusedVariables false
set_option linter.unusedSimpArgs false
namespace Go.Proofs.YtdogpphfofimeaaDoor.X
open Go.RowKit Go.Proofs.YtdogpphfofimeaaDoorW.PrintWords Go.Proofs.YtdogpphfofimeaaDoor.E
def numB (n : Int) : ByteArray := ⟨(Lib.itoa n).toArray⟩
def decB (u : Nat) : ByteArray := ⟨(Lib.decDigits u).toArray⟩
theorem digit_fin : ∀ i : Fin 10, (⟨#[48, 49, 50, 51, 52, 53, 54, 55, 56, 57]⟩ : ByteArray).extract i.val (i.val + 1) = ⟨#[UInt8.ofNat (48 + i.val)]⟩ := by decide +kernel
theorem digit_at (i : Int) (j : Int) (h0 : 0 ≤ i) (h1 : i < 10) (hj : j = i + 1) : (⟨#[48, 49, 50, 51, 52, 53, 54, 55, 56, 57]⟩ : ByteArray).extract i.toNat j.toNat = ⟨#[UInt8.ofNat (48 + i.toNat)]⟩ := by
  rw [show j.toNat = i.toNat + 1 by omega]
  exact digit_fin ⟨i.toNat, by omega⟩
theorem ba_append (l m : List UInt8) : (⟨l.toArray⟩ : ByteArray) ++ (⟨m.toArray⟩ : ByteArray) = ⟨(l ++ m).toArray⟩ := by
  apply ByteArray.ext
  rw [ByteArray.data_append]
  simp
theorem ba_size (l : List UInt8) : (⟨l.toArray⟩ : ByteArray).size = l.length := rfl
theorem decB_size (u : Nat) (h : u < 18446744073709551616) : (decB u).size ≤ 20 := by
  unfold decB
  rw [ba_size, Lib.decDigits_length]
  exact Lib.nDigits_le20 u h
theorem l1Num_nat : ∀ (u : Nat), u ≤ 9223372036854775807 → Ev (fun k => spec_l1Num.f k (u : Int)) (decB u) := by
  intro u
  induction u using Nat.strongRecOn with
  | _ u ih =>
    intro hu
    refine Ev.step (fun k => rfl) (ev_neg (by omega) ?_)
    by_cases h : u < 10
    · have hw : wrap64 ((u : Int) + 1) = (u : Int) + 1 := wrap_id (by omega) (by omega)
      rw [hw]
      refine ev_pos (by omega) (ev_pos (by omega) (ev_pos (by omega) (ev_pos (by omega) (ev_now ?_))))
      rw [digit_at (u : Int) _ (by omega) (by omega) rfl]
      unfold decB
      rw [Lib.decDigits, dif_pos h, Int.toNat_natCast]
    · refine ev_neg (by omega) ?_
      have hd : Int.tdiv (u : Int) 10 = ((u / 10 : Nat) : Int) := by rw [Int.tdiv_eq_ediv_of_nonneg (by omega)]; omega
      have hm : Int.tmod (u : Int) 10 = ((u % 10 : Nat) : Int) := by rw [Int.tmod_eq_emod_of_nonneg (by omega)]; omega
      have hw : wrap64 ((u / 10 : Nat) : Int) = ((u / 10 : Nat) : Int) := wrap_id (by omega) (by omega)
      have hw2 : wrap64 (((u % 10 : Nat) : Int) + 1) = ((u % 10 : Nat) : Int) + 1 := wrap_id (by omega) (by omega)
      rw [hd, hw, hm, hw2]
      refine Ev.bind (ih (u / 10) (by omega) (by omega)) ?_
      rw [digit_at ((u % 10 : Nat) : Int) _ (by omega) (by omega) rfl]
      have hs := decB_size (u / 10) (by omega)
      have h1 : (⟨#[UInt8.ofNat (48 + ((u % 10 : Nat) : Int).toNat)]⟩ : ByteArray).size = 1 := rfl
      refine ev_pos (by omega) (ev_pos (by omega) (ev_pos (by omega) (ev_pos (by omega) (ev_now ?_))))
      unfold decB
      rw [show (⟨#[UInt8.ofNat (48 + ((u % 10 : Nat) : Int).toNat)]⟩ : ByteArray) = ⟨[UInt8.ofNat (48 + u % 10)].toArray⟩ by rw [Int.toNat_natCast], ba_append]
      conv => rhs; rw [Lib.decDigits, dif_neg h]
theorem l1Num_ev (n : Int) (h0 : -9223372036854775807 ≤ n) (h1 : n ≤ 9223372036854775807) : Ev (fun k => spec_l1Num.f k n) (numB n) := by
  by_cases hn : n < 0
  · have hw : wrap64 (-n) = ((n.natAbs : Nat) : Int) := by rw [wrap_id (by omega) (by omega)]; omega
    refine Ev.step (fun k => rfl) (ev_pos hn ?_)
    rw [hw]
    have hs := decB_size n.natAbs (by omega)
    refine Ev.bind (l1Num_nat _ (by omega)) (ev_pos (by omega) (ev_now ?_))
    unfold numB decB
    rw [show (⟨#[45]⟩ : ByteArray) = ⟨[45].toArray⟩ from rfl, ba_append, Lib.itoa, if_pos hn]
    rfl
  · obtain ⟨u, rfl⟩ : ∃ u : Nat, n = u := ⟨n.toNat, by omega⟩
    refine ev_cast (l1Num_nat u (by omega)) ?_
    unfold numB decB
    rw [Lib.itoa, if_neg hn, Int.toNat_natCast]
end Go.Proofs.YtdogpphfofimeaaDoor.X
set_option linter.unusedVariables false
set_option linter.unusedSimpArgs false
namespace Go.Proofs.YtdogpphfofimeaaDoor.X
open Go.RowKit Go.Proofs.YtdogpphfofimeaaDoorW.PrintWords Go.Proofs.YtdogpphfofimeaaDoor.E
theorem dec_digit : ∀ (u : Nat), ∀ c ∈ Lib.decDigits u, 48 ≤ c.toNat ∧ c.toNat ≤ 57 := by
  intro u
  induction u using Nat.strongRecOn with
  | _ u ih =>
    intro c hc
    have one : ∀ d, d < 10 → 48 ≤ (UInt8.ofNat (48 + d)).toNat ∧ (UInt8.ofNat (48 + d)).toNat ≤ 57 := by
      intro d hd
      have : ∀ j : Fin 10, 48 ≤ (UInt8.ofNat (48 + j.val)).toNat ∧ (UInt8.ofNat (48 + j.val)).toNat ≤ 57 := by decide +kernel
      exact this ⟨d, hd⟩
    rw [Lib.decDigits] at hc
    split at hc
    · rw [List.mem_singleton.1 hc]; exact one u (by omega)
    · rcases List.mem_append.1 hc with h | h
      · exact ih (u / 10) (by omega) c h
      · rw [List.mem_singleton.1 h]; exact one _ (by omega)
theorem dec_one (d : Nat) (hd : d < 10) : (UInt8.ofNat (48 + d)).toNat = 48 + d := by
  have : ∀ j : Fin 10, (UInt8.ofNat (48 + j.val)).toNat = 48 + j.val := by decide +kernel
  exact this ⟨d, hd⟩
theorem dec_len : ∀ (k u : Nat), u < 10 ^ (k + 1) → 1 ≤ (Lib.decDigits u).length ∧ (Lib.decDigits u).length ≤ k + 1 := by
  intro k
  induction k with
  | zero =>
    intro u hu
    rw [Lib.decDigits, dif_pos (by simpa using hu)]
    simp
  | succ k ih =>
    intro u hu
    rw [Lib.decDigits]
    split
    · simp
    · have := ih (u / 10) (by rw [Nat.pow_succ] at hu; omega)
      rw [List.length_append, List.length_singleton]
      omega
def dv (l : List UInt8) : Int := l.foldl (fun a c => 10 * a + ((c.toNat : Int) - 48)) 0
theorem dv_snoc (l : List UInt8) (c : UInt8) : dv (l ++ [c]) = 10 * dv l + ((c.toNat : Int) - 48) := by unfold dv; rw [List.foldl_append]; rfl
theorem dv_dec : ∀ (u : Nat), dv (Lib.decDigits u) = (u : Int) := by
  intro u
  induction u using Nat.strongRecOn with
  | _ u ih =>
    rw [Lib.decDigits]
    split
    · rename_i h
      show dv ([] ++ [UInt8.ofNat (48 + u)]) = _
      rw [dv_snoc, dec_one u h]
      simp [dv]
      omega
    · rw [dv_snoc, ih (u / 10) (by omega), dec_one _ (by omega)]
      omega
theorem pu_snoc : ∀ (l : List UInt8) (acc m : Nat) (c : UInt8), Lib.parseUint10 acc l = .ok m → m < 1000000000000 → 48 ≤ c.toNat ∧ c.toNat ≤ 57 → Lib.parseUint10 acc (l ++ [c]) = .ok (m * 10 + (c.toNat - 48))
  | [], acc, m, c, h, hm, hc => by
    simp only [Lib.parseUint10] at h
    injection h with h
    subst h
    simp only [List.nil_append, Lib.parseUint10]
    rw [if_pos hc, if_neg (by omega), if_neg (by omega)]
  | b :: r, acc, m, c, h, hm, hc => by
    simp only [Lib.parseUint10] at h
    simp only [List.cons_append, Lib.parseUint10]
    split at h
    · rename_i h1
      rw [if_pos h1]
      split at h
      · cases h
      · rename_i h2
        rw [if_neg h2]
        split at h
        · cases h
        · rename_i h3
          rw [if_neg h3]
          exact pu_snoc r _ m c h hm hc
    · cases h
theorem pu_dec : ∀ (u : Nat), u < 1000000000000 → Lib.parseUint10 0 (Lib.decDigits u) = .ok u := by
  intro u
  induction u using Nat.strongRecOn with
  | _ u ih =>
    intro hu
    rw [Lib.decDigits]
    split
    · rename_i h
      have := pu_snoc [] 0 0 (UInt8.ofNat (48 + u)) rfl (by omega) (by rw [dec_one u h]; omega)
      rw [List.nil_append, dec_one u h] at this
      rw [this]
      congr 1
      omega
    · have := pu_snoc _ 0 (u / 10) (UInt8.ofNat (48 + u % 10)) (ih (u / 10) (by omega) (by omega)) (by omega) (by rw [dec_one _ (by omega)]; omega)
      rw [this, dec_one _ (by omega)]
      congr 1
      omega
theorem dec_ne (u : Nat) : Lib.decDigits u ≠ [] := by
  rw [Lib.decDigits]
  split <;> simp
theorem mag_dec (u : Nat) (hu : u < 1000000000000) : Lib.parseMag (Lib.decDigits u) = .ok u := by
  unfold Lib.parseMag
  rw [if_neg (dec_ne u)]
  exact pu_dec u hu
theorem atoi_itoa (v : Int) (h0 : -999999 ≤ v) (h1 : v ≤ 999999) : Lib.atoiAll (Lib.itoa v) = .ok v := by
  unfold Lib.itoa
  by_cases c : v < 0
  · rw [if_pos c, Lib.atoiAll_minus, mag_dec _ (by omega)]
    simp only [Lib.signed]
    rw [if_neg (by omega)]
    congr 1
    omega
  · rw [if_neg c]
    have hm := mag_dec v.toNat (by omega)
    cases hd : Lib.decDigits v.toNat with
    | nil => exact absurd hd (dec_ne _)
    | cons b r =>
      have hb := dec_digit v.toNat b (by rw [hd]; exact List.mem_cons_self ..)
      rw [hd] at hm
      rw [Lib.atoiAll_plain b r (by omega) (by omega), hm]
      simp only [Lib.signless]
      rw [if_neg (by omega)]
      congr 1
      omega
def IsNum (s : ByteArray) : Prop := ∃ v : Int, -999999 ≤ v ∧ v ≤ 999999 ∧ s = numB v
theorem parse_num {v : Int} (h0 : -999999 ≤ v) (h1 : v ≤ 999999) : parseE (numB v) = (v, true) := by
  unfold parseE
  have e : (numB v).data.toList = Lib.itoa v := by unfold numB; simp
  rw [e, atoi_itoa v h0 h1]
  exact if_pos ⟨⟨h0, h1⟩, rfl⟩
theorem parse_not {s : ByteArray} (h : ¬ IsNum s) : parseE s = (0, false) := by
  unfold parseE
  split
  · rename_i v hv
    split
    · rename_i hc
      refine absurd ⟨v, hc.1.1, hc.1.2, ?_⟩ h
      unfold numB
      rw [hc.2]
    · rfl
  · rfl
theorem bt_list (l : List UInt8) (i : Nat) (h : i < l.length) : bt ⟨l.toArray⟩ (i : Int) = ((l[i]).toNat : Int) := by
  unfold bt
  rw [Int.toNat_natCast]
  rw [dif_pos (show i < (⟨l.toArray⟩ : ByteArray).size from h)]
  rfl
def valT (t : ByteArray) : Nat → Int
  | 0 => 0
  | i + 1 => 10 * valT t i + (bt t (i : Int) - 48)
def digT (t : ByteArray) (i : Nat) : Bool := decide (48 ≤ bt t (i : Int) ∧ bt t (i : Int) ≤ 57)
theorem valT_bound (t : ByteArray) : ∀ i, i ≤ 6 → (∀ j, j < i → digT t j = true) → 0 ≤ valT t i ∧ valT t i < (10 ^ i : Nat)
  | 0, _, _ => by simp [valT]
  | i + 1, hi, h => by
    have h1 := valT_bound t i (by omega) (fun j hj => h j (by omega))
    have h2 := of_decide_eq_true (h i (by omega))
    simp only [valT]
    have : ((10 ^ (i + 1) : Nat) : Int) = 10 * ((10 ^ i : Nat) : Int) := by rw [Nat.pow_succ]; omega
    omega
theorem valT_list (l : List UInt8) : ∀ i, i ≤ l.length → valT ⟨l.toArray⟩ i = dv (l.take i)
  | 0, _ => by simp [valT, dv]
  | i + 1, h => by
    rw [valT, valT_list l i (by omega), bt_list l i (by omega), List.take_succ_eq_append_getElem (by omega), dv_snoc]
/-- What the reference's reading comes to, the sign taken off. -/
def readT (s t : ByteArray) : Int × Bool := if (1 ≤ (t.size : Int) ∧ (t.size : Int) ≤ 6) ∧ (List.range t.size).all (digT t) = true then (if t.size < s.size then (if (numB (-(valT t t.size))).toList = s.toList then (-(valT t t.size), true) else (0, false)) else (if (numB (valT t t.size)).toList = s.toList then (valT t t.size, true) else (0, false))) else (0, false)
theorem read1_ev (s t : ByteArray) : Ev (fun k => spec_l1Read.j1 k s t) (readT s t) := by
  have hin : ∀ a l h : Int, spec_l1In.f a l h = some (decide (l ≤ a ∧ a ≤ h)) := fun a l h => by
    unfold spec_l1In.f
    by_cases h1 : a ≥ l
    · rw [if_pos h1]; congr 1; simp [h1]
    · rw [if_neg h1]; congr 1; symm; simp; intro h2; omega
  refine Ev.step (fun k => rfl) (ev_bind0 (hin _ _ _) (ev_ite (fun c => ?_) (fun c => ev_now ?_)))
  case refine_2 =>
    unfold readT
    rw [decide_eq_true_eq] at c
    rw [if_neg (fun h => c h.1)]
  rw [decide_eq_true_eq] at c
  have h := ev_all (L := fun k (n : Int) i => spec_l1Read.l0 k s t n i) t.size (valT t) (digT t) (0, false) (if t.size < s.size then (if (numB (-(valT t t.size))).toList = s.toList then (-(valT t t.size), true) else (0, false)) else (if (numB (valT t t.size)).toList = s.toList then (valT t t.size, true) else (0, false))) ?h0 ?h1 ?h2
  case h0 =>
    intro hd
    have hb := valT_bound t t.size (by omega) hd
    have hp : ((10 ^ t.size : Nat) : Int) ≤ 1000000 := by
      have : 10 ^ t.size ≤ 10 ^ 6 := Nat.pow_le_pow_right (by omega) (by omega)
      omega
    refine Ev.step (fun k => rfl) (ev_neg (by omega) ?_)
    have hw : wrap64 (-(valT t t.size)) = -(valT t t.size) := wrap_id (by omega) (by omega)
    by_cases d : t.size < s.size
    · rw [if_pos d]
      refine ev_pos (by omega) ?_
      rw [hw]
      refine Ev.bind (l1Num_ev _ (by omega) (by omega)) (ev_ite (fun e => ev_now (by rw [if_pos e])) (fun e => ev_now (by rw [if_neg e])))
    · rw [if_neg d]
      exact ev_neg (by omega) (Ev.bind (l1Num_ev _ (by omega) (by omega)) (ev_ite (fun e => ev_now (by rw [if_pos e])) (fun e => ev_now (by rw [if_neg e]))))
  case h1 =>
    intro i hi hd hc y hy
    have hb := valT_bound t i (by omega) hd
    have hp : ((10 ^ i : Nat) : Int) ≤ 1000000 := by
      have : 10 ^ i ≤ 10 ^ 6 := Nat.pow_le_pow_right (by omega) (by omega)
      omega
    have hc' := of_decide_eq_true hc
    refine Ev.step (fun k => rfl) (ev_pos (by omega) (ev_pos (by omega) (ev_neg (by omega) (ev_neg (by omega) ?_))))
    rw [wrap_succ hi (by omega), show (bt t (i : Int) - 48) % 256 = bt t (i : Int) - 48 by omega, show wrap64 (10 * valT t i) = 10 * valT t i from wrap_id (by omega) (by omega), show wrap64 (10 * valT t i + (bt t (i : Int) - 48)) = valT t (i + 1) from wrap_id (by omega) (by omega)]
    exact hy
  case h2 =>
    intro i hi _ hc
    have hc' := of_decide_eq_false hc
    refine Ev.step (fun k => rfl) (ev_pos (by omega) (ev_pos (by omega) (ev_ite (fun _ => ev_now rfl) (fun h1 => ev_pos (by omega) (ev_now rfl)))))
  refine ev_cast h ?_
  unfold readT
  by_cases d : (List.range t.size).all (digT t) = true
  · rw [if_pos d]
    exact (if_pos ⟨c, d⟩).symm
  · rw [if_neg d, if_neg (fun h => d h.2)]
def tailOf (s : ByteArray) : ByteArray := if (s.size : Int) > 1 ∧ bt s 0 = 45 then s.extract 1 s.size else s
theorem read_ev0 (s : ByteArray) : Ev (fun k => spec_l1Read.f k s) (readT s (tailOf s)) := by
  unfold spec_l1Read.f tailOf
  by_cases c : (s.size : Int) > 1
  · refine ev_pos c (ev_pos (by omega) ?_)
    by_cases d : bt s 0 = 45
    · rw [if_pos ⟨c, d⟩, show (bt s 0 == 45) = true by simpa using d]
      exact Ev.step (fun k => rfl) (show Ev (fun k => if 1 ≤ (s.size : Int) then spec_l1Read.j1 k s (s.extract 1 s.size) else none) _ from ev_pos (by omega) (read1_ev s _))
    · rw [if_neg (fun h => d h.2), show (bt s 0 == 45) = false by simpa using d]
      exact Ev.step (fun k => rfl) (show Ev (fun k => spec_l1Read.j1 k s s) _ from read1_ev s s)
  · rw [if_neg (fun h => c h.1)]
    exact ev_neg c (Ev.step (fun k => rfl) (show Ev (fun k => spec_l1Read.j1 k s s) _ from read1_ev s s))
theorem digits_all (u : Nat) : (List.range (⟨(Lib.decDigits u).toArray⟩ : ByteArray).size).all (digT ⟨(Lib.decDigits u).toArray⟩) = true := by
  rw [all_range]
  intro i hi
  have hi' : i < (Lib.decDigits u).length := hi
  unfold digT
  rw [bt_list _ i hi']
  have := dec_digit u _ (List.getElem_mem hi')
  exact decide_eq_true (by omega)
theorem val_dec (u : Nat) : valT ⟨(Lib.decDigits u).toArray⟩ (⟨(Lib.decDigits u).toArray⟩ : ByteArray).size = (u : Int) := by
  have := valT_list (Lib.decDigits u) (Lib.decDigits u).length (Nat.le_refl _)
  rw [List.take_length, dv_dec] at this
  exact this
theorem ba_inj2 {a b : ByteArray} (h : a.toList = b.toList) : a = b := by
  rw [Lib.toList_data, Lib.toList_data] at h
  exact ByteArray.ext (Array.toList_inj.1 h)
theorem readT_eq (s : ByteArray) : readT s (tailOf s) = parseE s := by
  by_cases hn : IsNum s
  · obtain ⟨v, h0, h1, rfl⟩ := hn
    rw [parse_num h0 h1]
    by_cases c : v < 0
    · have e : numB v = ⟨(45 :: Lib.decDigits v.natAbs).toArray⟩ := by unfold numB Lib.itoa; rw [if_pos c]
      have hl := dec_len 5 v.natAbs (by omega)
      have hsz : (numB v).size = 1 + (Lib.decDigits v.natAbs).length := by rw [e]; show (45 :: Lib.decDigits v.natAbs).length = _; rw [List.length_cons]; omega
      have hb : bt (numB v) 0 = 45 := by rw [e]; exact bt_list (45 :: Lib.decDigits v.natAbs) 0 (by simp)
      have ht : tailOf (numB v) = ⟨(Lib.decDigits v.natAbs).toArray⟩ := by
        unfold tailOf
        rw [if_pos ⟨by omega, hb⟩, hsz, e]
        apply ByteArray.ext
        rw [ByteArray.data_extract]
        apply Array.toList_inj.1
        rw [Array.toList_extract]
        simp [List.extract]
      have hts : (⟨(Lib.decDigits v.natAbs).toArray⟩ : ByteArray).size = (Lib.decDigits v.natAbs).length := rfl
      unfold readT
      rw [ht, if_pos ⟨⟨by omega, by omega⟩, digits_all _⟩, if_pos (by omega), val_dec, show -((v.natAbs : Nat) : Int) = v by omega, if_pos rfl]
    · have e : numB v = ⟨(Lib.decDigits v.toNat).toArray⟩ := by unfold numB Lib.itoa; rw [if_neg c]
      have hl := dec_len 5 v.toNat (by omega)
      have hts : (⟨(Lib.decDigits v.toNat).toArray⟩ : ByteArray).size = (Lib.decDigits v.toNat).length := rfl
      have ht : tailOf (numB v) = numB v := by
        unfold tailOf
        rw [if_neg]
        rintro ⟨_, hb⟩
        rw [e, show (0 : Int) = ((0 : Nat) : Int) from rfl, bt_list _ 0 (by omega)] at hb
        have := dec_digit v.toNat _ (List.getElem_mem (show 0 < (Lib.decDigits v.toNat).length by omega))
        omega
      unfold readT
      rw [ht]
      have hval : valT (numB v) (numB v).size = v := by rw [e, val_dec]; omega
      have hsz : (numB v).size = (Lib.decDigits v.toNat).length := by rw [e]; rfl
      rw [if_pos ⟨⟨by omega, by omega⟩, by rw [e]; exact digits_all _⟩, if_neg (by omega), hval, if_pos rfl]
  · rw [parse_not hn]
    unfold readT
    split
    · rename_i hc
      have hb := valT_bound (tailOf s) (tailOf s).size (by omega) (fun j hj => all_range.1 hc.2 j hj)
      have hp : ((10 ^ (tailOf s).size : Nat) : Int) ≤ 1000000 := by
        have : 10 ^ (tailOf s).size ≤ 10 ^ 6 := Nat.pow_le_pow_right (by omega) (by omega)
        omega
      split
      · split
        · rename_i he; exact absurd ⟨_, by omega, by omega, (ba_inj2 he).symm⟩ hn
        · rfl
      · split
        · rename_i he; exact absurd ⟨_, by omega, by omega, (ba_inj2 he).symm⟩ hn
        · rfl
    · rfl
theorem l1Read_ev (s : ByteArray) : Ev (fun k => spec_l1Read.f k s) (parseE s) := ev_cast (read_ev0 s) (readT_eq s)
theorem parseInt_eq (s : ByteArray) (h : s.size ≤ 281474976710656) : impl_ParseInt.f s = some (parseE s) := by unfold impl_ParseInt.f; rw [if_pos h]
end Go.Proofs.YtdogpphfofimeaaDoor.X
set_option linter.unusedVariables false
set_option linter.unusedSimpArgs false
namespace Go.Proofs.YtdogpphfofimeaaDoor.X
open Go.RowKit Go.Proofs.YtdogpphfofimeaaDoorW.PrintWords Go.Proofs.YtdogpphfofimeaaDoor.E
def valueB (f : Field) (t : ByteArray) : Bool :=
  if f.f1 = 1 then (parseE t).2 && decide (f.f2 ≤ (parseE t).1 ∧ (parseE t).1 ≤ f.f3)
  else if f.f1 = 2 then decide (f.f2 ≤ (t.size : Int) ∧ (t.size : Int) ≤ f.f3)
  else if f.f1 = 3 then f.f4.any (fun x => x.toList == t.toList)
  else (t.toList == ([121, 101, 115] : List UInt8)) || (t.toList == ([110, 111] : List UInt8))
theorem within_eq2 (a l h : Int) : impl_within.f a l h = some (decide (l ≤ a ∧ a ≤ h)) := by
  unfold impl_within.f
  by_cases h1 : a ≥ l
  · rw [if_pos h1]; congr 1; simp [h1]
  · rw [if_neg h1]; congr 1; symm; simp; intro h2; omega
theorem yes_no (t : ByteArray) : (if t.toList = ([121, 101, 115] : List UInt8) then some true else some (t.toList == ([110, 111] : List UInt8))) = some ((t.toList == ([121, 101, 115] : List UInt8)) || (t.toList == ([110, 111] : List UInt8))) := by
  by_cases c : t.toList = ([121, 101, 115] : List UInt8)
  · rw [if_pos c]; simp [c]
  · rw [if_neg c, show (t.toList == ([121, 101, 115] : List UInt8)) = false by simpa using c, Bool.false_or]
theorem implValue_ev (f : Field) (t : ByteArray) (hf : fine f) (ht : t.size ≤ 281474976710656) : Ev (fun k => impl_Field_isValue.f k f.f0 f.f1 f.f2 f.f3 f.f4 f.f5 f.f6 t) (valueB f t) := by
  unfold impl_Field_isValue.f valueB
  by_cases c1 : f.f1 = 1
  · rw [if_pos c1]
    refine ev_pos c1 (ev_bind0 (parseInt_eq t ht) ?_)
    by_cases c : (parseE t).2 = true
    · exact ev_pos c (ev_bind0 (within_eq2 _ _ _) (ev_now (by rw [c, Bool.true_and])))
    · exact ev_neg c (ev_now (by rw [Bool.not_eq_true] at c; rw [c, Bool.false_and]))
  rw [if_neg c1]
  refine ev_neg c1 ?_
  by_cases c2 : f.f1 = 2
  · rw [if_pos c2]
    exact ev_pos c2 (ev_bind0 (within_eq2 _ _ _) (ev_now rfl))
  rw [if_neg c2]
  refine ev_neg c2 ?_
  by_cases c3 : f.f1 = 3
  · rw [if_pos c3]
    exact ev_pos c3 (Ev.bind (slicesContainsStr_ev f.f4 t hf.2.1) (ev_now rfl))
  rw [if_neg c3]
  exact ev_neg c3 (ev_of (yes_no t))
theorem specValue_ev (f : Field) (t : ByteArray) (hf : fine f) (hk : 1 ≤ f.f1 ∧ f.f1 ≤ 4) : Ev (fun k => spec_l23Value.f k f.f0 f.f1 f.f2 f.f3 f.f4 f.f5 f.f6 t) (valueB f t) := by
  unfold spec_l23Value.f valueB
  by_cases c1 : f.f1 = 1
  · rw [if_pos c1]
    refine ev_pos c1 (Ev.bind (show Ev (fun k => spec_ParseInt.f k t) (parseE t) from Ev.bind (l1Read_ev t) (ev_now rfl)) ?_)
    by_cases c : (parseE t).2 = true
    · exact ev_pos c (ev_bind0 (l1In_eq _ _ _) (ev_now (by rw [c, Bool.true_and])))
    · exact ev_neg c (ev_now (by rw [Bool.not_eq_true] at c; rw [c, Bool.false_and]))
  rw [if_neg c1]
  refine ev_neg c1 ?_
  by_cases c2 : f.f1 = 2
  · rw [if_pos c2]
    exact ev_pos c2 (ev_bind0 (l1In_eq _ _ _) (ev_now rfl))
  rw [if_neg c2]
  refine ev_neg c2 ?_
  by_cases c3 : f.f1 = 3
  · rw [if_pos c3]
    refine ev_neg (by omega) ?_
    have h := ev_walk (L := fun k i => spec_l23Value.l0 k t i f.f0 f.f1 f.f2 f.f3 f.f4 f.f5 f.f6) (G := fun i r => r.any (fun x => x.toList == t.toList)) f.f4 (Ev.step (fun k => rfl) (ev_neg (by omega) (ev_now rfl))) ?step
    case step =>
      intro i x r hi hd hx hk
      refine Ev.step (fun k => rfl) (ev_pos (by omega) (ev_pos (by omega) ?_))
      simp only [rdOf, Int.toNat_natCast, hx]
      by_cases c : x.toList = t.toList
      · exact ev_pos c (ev_now (by simp [c]))
      · refine ev_neg c ?_
        rw [wrap_succ hi hf.2.1]
        exact ev_cast hk (by simp [c])
    exact h
  rw [if_neg c3]
  exact ev_pos (by omega) (ev_of (yes_no t))
def stateN (form : List Field) (ans : List Answer) (i : Nat) : Int :=
  let v := rdOf false (visL form ans form.length) (i : Int)
  let a := (look ans (form.getD i zF).f0).isSome
  if v = false ∧ a = true then 3 else if v = true ∧ (form.getD i zF).f5 = true ∧ a = false then 1 else if v = true ∧ a = true ∧ valueB (form.getD i zF) (txtOf ans (form.getD i zF).f0) = false then 2 else 0
def statesL (form : List Field) (ans : List Answer) : Nat → List Int
  | 0 => []
  | i + 1 => statesL form ans i ++ [stateN form ans i]
theorem statesL_length (form : List Field) (ans : List Answer) : ∀ i, (statesL form ans i).length = i
  | 0 => rfl
  | i + 1 => by rw [statesL, List.length_append, statesL_length form ans i, List.length_singleton]
theorem implStates_ev (form : List Field) (ans : List Answer) (V : Valid form ans) (hf : ∀ f ∈ form, fine f) (ha : ∀ a ∈ ans, a.f1.size ≤ 1048576) : Ev (fun k => impl_states.f k form ans) (statesL form ans form.length) := by
  have hlen := V.len
  have hvl := visL_length form ans form.length
  have h := ev_all (L := fun k (s : List Int) i => impl_states.l0 k form ans s (visL form ans form.length) ((visL form ans form.length).length : Int) i) form.length (statesL form ans) (fun _ => true) [] (statesL form ans form.length) (fun _ => Ev.step (fun k => rfl) (ev_neg (by rw [hvl]; omega) (ev_now rfl))) ?h1 (fun i hi _ hc => nomatch hc)
  case h1 =>
    intro i hi _ _ y hy
    have hsl := statesL_length form ans i
    have hfi := hf _ (List.getElem_mem hi)
    rw [← getD_in hi zF] at hfi
    obtain ⟨b, hb, hbe⟩ := answerOf_eq ans (form.getD i zF).f0
    have htx : (txtOf ans (form.getD i zF).f0).size ≤ 1048576 := by
      unfold txtOf
      cases hq : look ans (form.getD i zF).f0 with
      | none => exact Nat.zero_le _
      | some x => exact ha x (List.mem_of_find?_eq_some hq)
    generalize hF : form.getD i zF = F at *
    generalize hT : txtOf ans F.f0 = T at *
    have hgo : ∀ n, n = stateN form ans i → Ev (fun k => impl_states.l0 k form ans (statesL form ans i ++ [n]) (visL form ans form.length) ((visL form ans form.length).length : Int) (wrap64 ((i : Int) + 1))) y := by
      intro n hn
      rw [wrap_succ hi (by omega), hn]
      exact hy
    have hst : stateN form ans i = (if rdOf false (visL form ans form.length) (i : Int) = false ∧ b = true then 3 else if rdOf false (visL form ans form.length) (i : Int) = true ∧ F.f5 = true ∧ b = false then 1 else if rdOf false (visL form ans form.length) (i : Int) = true ∧ b = true ∧ valueB F T = false then 2 else 0) := by
      unfold stateN
      rw [hF, hT, hbe]
    refine Ev.step (fun k => rfl) (ev_pos (by rw [hvl]; omega) (ev_pos (by omega) (ev_pos (by rw [hvl]; omega) (ev_pos (by omega) ?_))))
    simp only [rd_T69, Int.toNat_natCast]
    rw [show form.getD i z69 = F from hF]
    refine ev_bind0 hb ?_
    generalize hV : rdOf false (visL form ans form.length) (i : Int) = v at *
    have hj2 : ∀ q, (v = false → b = false) → q = (v && (F.f5 && !b)) → Ev (fun k => impl_states.j2 k form ans (statesL form ans i) v T b 0 (visL form ans form.length) ((visL form ans form.length).length : Int) (i : Int) q F.f0 F.f1 F.f2 F.f3 F.f4 F.f5 F.f6) y := by
      intro q hvb hq
      subst hq
      refine Ev.step (fun k => rfl) ?_
      simp only [impl_states.j2]
      cases v
      · have := hvb rfl
        subst this
        refine ev_neg (by simp) (ev_neg (by simp) (ev_pos (by omega) (hgo 0 (by rw [hst]; simp))))
      cases b
      · cases h5 : F.f5
        · exact ev_neg (by simp) (ev_pos rfl (ev_neg (by simp) (ev_pos (by omega) (hgo 0 (by rw [hst, h5]; simp)))))
        · exact ev_pos (by simp) (ev_pos (by omega) (hgo 1 (by rw [hst, h5]; simp)))
      · refine ev_neg (by simp) (ev_pos rfl (ev_pos rfl ?_))
        have hval := implValue_ev F T hfi (by omega)
        cases h5 : valueB F T
        · rw [h5] at hval
          exact Ev.bind hval (ev_neg (by simp) (ev_pos (by omega) (hgo 2 (by rw [hst, h5]; simp))))
        · rw [h5] at hval
          exact Ev.bind hval (ev_pos rfl (ev_pos (by omega) (hgo 0 (by rw [hst, h5]; simp))))
    have hj1 : Ev (fun k => impl_states.j1 k form ans (statesL form ans i) v T b 0 (visL form ans form.length) ((visL form ans form.length).length : Int) (i : Int) (!v && b) F.f0 F.f1 F.f2 F.f3 F.f4 F.f5 F.f6) y := by
      refine Ev.step (fun k => rfl) ?_
      simp only [impl_states.j1]
      cases v
      · cases b
        · exact ev_neg (by simp) (ev_neg (by simp) (hj2 false (fun _ => rfl) (by simp)))
        · exact ev_pos (by simp) (ev_pos (by omega) (hgo 3 (by rw [hst]; simp)))
      · refine ev_neg (by simp) (ev_pos rfl ?_)
        cases h5 : F.f5
        · have := hj2 false (fun h => nomatch h) (by rw [h5]; simp)
          rw [h5] at this
          exact ev_neg (by simp) this
        · have := hj2 (!b) (fun h => nomatch h) (by rw [h5]; simp)
          rw [h5] at this
          exact ev_pos rfl this
    cases v
    · exact ev_neg (by simp) hj1
    · exact ev_pos rfl hj1
  unfold impl_states.f
  refine Ev.bind (implVis_ev form ans V) ?_
  rw [if_pos (by rw [all_range]; intro i hi; rfl)] at h
  exact h
theorem specStates_ev (form : List Field) (ans : List Answer) (V : Valid form ans) (hla : ans.length ≤ 9223372036854775807) (hf : ∀ f ∈ form, fine f) : Ev (fun k => spec_l23States.f k form ans) (statesL form ans form.length) := by
  have hlen := V.len
  have hvl := visL_length form ans form.length
  have h := ev_all (L := fun k (s : List Int) i => spec_l23States.l0 k form ans (visL form ans form.length) s i) form.length (statesL form ans) (fun _ => true) [] (statesL form ans form.length) (fun _ => Ev.step (fun k => rfl) (ev_neg (by omega) (ev_now rfl))) ?h1 (fun i hi _ hc => nomatch hc)
  case h1 =>
    intro i hi _ _ y hy
    have hsl := statesL_length form ans i
    have hfi := hf _ (List.getElem_mem hi)
    rw [← getD_in hi zF] at hfi
    have hfB := V.fld i hi
    unfold fieldB at hfB
    simp only [Bool.and_eq_true, decide_eq_true_eq] at hfB
    have hkind := hfB.1.1.2
    have htext := l23Text_ev ans (form.getD i zF).f0 hla
    have hgo : ∀ n, n = stateN form ans i → Ev (fun k => spec_l23States.l0 k form ans (visL form ans form.length) (statesL form ans i ++ [n]) (wrap64 ((i : Int) + 1))) y := by
      intro n hn
      rw [wrap_succ hi (by omega), hn]
      exact hy
    have hrdF : rd_T69 form (i : Int) = form.getD i zF := by unfold rd_T69; rw [Int.toNat_natCast]
    generalize hF : form.getD i zF = F at *
    generalize hT : txtOf ans F.f0 = T at *
    generalize hB : (look ans F.f0).isSome = b at *
    have hst : stateN form ans i = (if rdOf false (visL form ans form.length) (i : Int) = false ∧ b = true then 3 else if rdOf false (visL form ans form.length) (i : Int) = true ∧ F.f5 = true ∧ b = false then 1 else if rdOf false (visL form ans form.length) (i : Int) = true ∧ b = true ∧ valueB F T = false then 2 else 0) := by
      unfold stateN
      rw [hF, hT, hB]
    refine Ev.step (fun k => rfl) (ev_pos (by omega) (ev_pos (by omega) ?_))
    rw [hrdF]
    refine Ev.bind htext (ev_pos (by rw [hvl]; omega) ?_)
    have hj2 : ∀ q, (rdOf false (visL form ans form.length) (i : Int) = false → b = false) → q = (rdOf false (visL form ans form.length) (i : Int) && (F.f5 && !b)) → Ev (fun k => spec_l23States.j2 k form ans (visL form ans form.length) (statesL form ans i) (i : Int) T b q) y := by
      intro q hvb hq
      subst hq
      refine Ev.step (fun k => rfl) ?_
      simp only [spec_l23States.j2]
      rw [hrdF]
      cases hv : rdOf false (visL form ans form.length) (i : Int)
      · have := hvb hv
        subst this
        refine ev_neg (by simp) (ev_pos (by omega) (ev_pos (by rw [hvl]; omega) (ev_neg (by simp) (ev_pos (by omega) (hgo 0 (by rw [hst, hv]; simp))))))
      cases b
      · cases h5 : F.f5
        · exact ev_neg (by simp) (ev_pos (by omega) (ev_pos (by rw [hvl]; omega) (ev_pos rfl (ev_neg (by simp) (ev_pos (by omega) (hgo 0 (by rw [hst, hv, h5]; simp)))))))
        · exact ev_pos (by simp) (ev_pos (by omega) (hgo 1 (by rw [hst, hv, h5]; simp)))
      · refine ev_neg (by simp) (ev_pos (by omega) (ev_pos (by rw [hvl]; omega) (ev_pos rfl (ev_pos rfl (ev_pos (by omega) ?_)))))
        have hval := specValue_ev F T hfi hkind
        cases h5 : valueB F T
        · rw [h5] at hval
          exact Ev.bind hval (ev_neg (by simp) (ev_pos (by omega) (hgo 2 (by rw [hst, hv, h5]; simp))))
        · rw [h5] at hval
          exact Ev.bind hval (ev_pos rfl (ev_pos (by omega) (hgo 0 (by rw [hst, hv, h5]; simp))))
    have hj1 : Ev (fun k => spec_l23States.j1 k form ans (visL form ans form.length) (statesL form ans i) (i : Int) T b (!(rdOf false (visL form ans form.length) (i : Int)) && b)) y := by
      refine Ev.step (fun k => rfl) ?_
      simp only [spec_l23States.j1]
      rw [hrdF]
      cases hv : rdOf false (visL form ans form.length) (i : Int)
      · cases b
        · exact ev_neg (by simp) (ev_pos (by omega) (ev_pos (by rw [hvl]; omega) (ev_neg (by simp) (hj2 false (fun _ => rfl) (by rw [hv]; simp)))))
        · exact ev_pos (by simp) (ev_pos (by omega) (hgo 3 (by rw [hst, hv]; simp)))
      · refine ev_neg (by simp) (ev_pos (by omega) (ev_pos (by rw [hvl]; omega) (ev_pos rfl (ev_pos (by omega) ?_))))
        cases h5 : F.f5
        · exact ev_neg (by simp) (hj2 false (fun h => by rw [hv] at h; cases h) (by rw [h5, hv]; simp))
        · exact ev_pos rfl (hj2 (!b) (fun h => by rw [hv] at h; cases h) (by rw [h5, hv]; simp))
    cases hv : rdOf false (visL form ans form.length) (i : Int)
    · rw [hv] at hj1
      exact ev_neg (by simp) hj1
    · rw [hv] at hj1
      exact ev_pos rfl hj1
  unfold spec_l23States.f
  refine Ev.bind (specVis_ev form ans V hla) ?_
  rw [if_pos (by rw [all_range]; intro i hi; rfl)] at h
  exact h
end Go.Proofs.YtdogpphfofimeaaDoor.X
set_option linter.unusedVariables false
set_option linter.unusedSimpArgs false
namespace Go.Proofs.YtdogpphfofimeaaDoor.X
open Go.RowKit Go.Proofs.YtdogpphfofimeaaDoorW.PrintWords Go.Proofs.YtdogpphfofimeaaDoor.E
theorem markLoop : ∀ (n : Nat) (x : Int) (s : ByteArray), x.toNat = n → 0 ≤ x → s.size + n ≤ 4611686018427387905 → ∃ r, Ev (fun k => laws_markText.l0 k x s) r := by
  intro n
  induction n using Nat.strongRecOn with
  | _ n ih =>
    intro x s hn h0 hb
    by_cases c : x > 0
    · have hs : (strOfNums [(wrap64 (48 + (Int.tmod x 10))) % 256]).size = 1 := by rw [strOfNums_size]; rfl
      have hd : wrap64 (Int.tdiv x 10) = x / 10 := by rw [Int.tdiv_eq_ediv_of_nonneg h0, wrap_id (by omega) (by omega)]
      obtain ⟨r, h⟩ := ih (x / 10).toNat (by omega) (x / 10) (strOfNums [(wrap64 (48 + (Int.tmod x 10))) % 256] ++ s) rfl (by omega) (by rw [ByteArray.size_append, hs]; omega)
      refine ⟨r, Ev.step (fun k => rfl) (ev_pos c (ev_some (ev_pos (by rw [hs]; omega) ?_)))⟩
      rw [hd]
      exact h
    · exact ⟨_, Ev.step (fun k => rfl) (ev_neg c (ev_pos (by omega) (ev_now rfl)))⟩
theorem mark_ex (q : Int) (h : q ≤ 4611686018427387905) : ∃ r, Ev (fun k => laws_markText.f k q) r := by
  unfold laws_markText.f
  by_cases c : q ≤ 0
  · exact ⟨_, ev_pos c (ev_now rfl)⟩
  · obtain ⟨r, h⟩ := markLoop q.toNat q (⟨#[]⟩ : ByteArray) rfl (by omega) (by rw [show (⟨#[]⟩ : ByteArray).size = 0 from rfl]; omega)
    exact ⟨r, ev_neg c h⟩
open Classical in
noncomputable def mt (q : Int) : ByteArray := if h : ∃ r, Ev (fun k => laws_markText.f k q) r then Classical.choose h else (⟨#[]⟩ : ByteArray)
theorem mt_ev (q : Int) (h : q ≤ 4611686018427387905) : Ev (fun k => laws_markText.f k q) (mt q) := by
  unfold mt
  rw [dif_pos (mark_ex q h)]
  exact Classical.choose_spec (mark_ex q h)
end Go.Proofs.YtdogpphfofimeaaDoor.X
set_option linter.unusedVariables false
set_option linter.unusedSimpArgs false
namespace Go.Proofs.YtdogpphfofimeaaDoor.X
open Go.RowKit Go.Proofs.YtdogpphfofimeaaDoorW.PrintWords Go.Proofs.YtdogpphfofimeaaDoor.E
noncomputable def mkS (q : Int) (_ : ByteArray) : ByteArray := mt q
theorem sum1 {α : Type} (L : List α) : (L.map (fun _ => 1)).sum = L.length := by
  induction L with
  | nil => rfl
  | cons e L ih => rw [List.map_cons, List.sum_cons, ih, List.length_cons]; omega
theorem markStr (L : List ByteArray) (q : Int) (h0 : 0 ≤ q) (hq : q + L.length ≤ 4611686018427387904) : Ev (fun k => laws_markStringS.f k L q) (q + (L.length : Nat), markAll mkS (fun _ => 1) q L) := by
  have h := ev_mark (L := fun k l q i => laws_markStringS.l0 k l q i) L mkS (fun _ => 1) (fun out q ho => Ev.step (fun k => rfl) (ev_neg (by omega) (ev_now rfl))) ?hs q h0 (by rw [sum1]; omega)
  case hs =>
    intro out q i x y hi ho hx hxm hg h0 hb h
    have hw1 : wrap64 (q + 1) = q + (1 : Nat) := by rw [wrap_id (by omega) (by omega)]; omega
    refine Ev.step (fun k => rfl) (ev_pos (by omega) (Ev.bind (mt_ev q (by omega)) (ev_pos (by omega) ?_)))
    rw [hw1, wrap_succ hi (by omega), Int.toNat_natCast]
    exact h
  rw [sum1] at h
  exact h
end Go.Proofs.YtdogpphfofimeaaDoor.X
set_option linter.unusedVariables false
set_option linter.unusedSimpArgs false
namespace Go.Proofs.YtdogpphfofimeaaDoor.X
open Go.RowKit Go.Proofs.YtdogpphfofimeaaDoorW.PrintWords Go.Proofs.YtdogpphfofimeaaDoor.E
noncomputable def mkF (q : Int) (x : S69) : S69 := ⟨mt q, q + 1, q + 2, q + 3, markAll mkS (fun _ => 1) (q + 4) x.f4, (Int.tmod (q + 4 + x.f4.length) 3 == 0), mt (q + 5 + x.f4.length)⟩
def wF (x : S69) : Nat := 6 + x.f4.length
theorem wF_len (L : List S69) : L.length ≤ (L.map wF).sum := by
  induction L with
  | nil => exact Nat.le_refl _
  | cons e L ih => rw [List.map_cons, List.sum_cons, List.length_cons]; unfold wF at *; omega
theorem markField (L : List S69) (q : Int) (h0 : 0 ≤ q) (hq : q + (((L.map wF).sum : Nat) : Int) ≤ 4611686018427387904) : Ev (fun k => laws_markFieldS.f k L q) (q + (((L.map wF).sum : Nat) : Int), markAll mkF wF q L) := by
  refine ev_mark (L := fun k l q i => laws_markFieldS.l0 k l q i) L mkF wF (fun out q ho => Ev.step (fun k => rfl) (ev_neg (by omega) (ev_now rfl))) ?hs q h0 (by omega)
  case hs =>
    intro out q i x y hi ho hx hxm hg h0 hb h
    have hc : (wF x : Int) = 6 + (x.f4.length : Int) := by unfold wF; omega
    have hle : wF x ≤ (L.map wF).sum := le_sum hxm
    have hll := wF_len L
    have e1 : wrap64 (q + 1) = q + 1 := wrap_id (by omega) (by omega)
    have e2 : wrap64 (q + 1 + 1) = q + 2 := by rw [wrap_id (by omega) (by omega)]; omega
    have e3 : wrap64 (q + 2 + 1) = q + 3 := by rw [wrap_id (by omega) (by omega)]; omega
    have e4 : wrap64 (q + 3 + 1) = q + 4 := by rw [wrap_id (by omega) (by omega)]; omega
    have hrd : rd_T69 out (i : Int) = x := by unfold rd_T69; rw [Int.toNat_natCast]; exact hg _
    refine Ev.step (fun k => rfl) (ev_pos (by omega) (ev_pos (by omega) (Ev.bind (mt_ev q (by omega)) ?_)))
    simp only [e1, e2, e3, e4, hrd]
    have e5 : wrap64 (q + 4 + ((x.f4.length : Nat) : Int) + 1) = q + 5 + (x.f4.length : Int) := by rw [wrap_id (by omega) (by omega)]; omega
    have e6 : wrap64 (q + 5 + (x.f4.length : Int) + 1) = q + (wF x : Int) := by rw [wrap_id (by omega) (by omega)]; omega
    refine Ev.bind (markStr x.f4 (q + 4) (by omega) (by omega)) ?_
    simp only [e5, e6]
    refine Ev.bind (mt_ev _ (by omega)) ?_
    rw [wrap_succ hi (by omega), Int.toNat_natCast]
    exact h
end Go.Proofs.YtdogpphfofimeaaDoor.X
set_option linter.unusedVariables false
set_option linter.unusedSimpArgs false
namespace Go.Proofs.YtdogpphfofimeaaDoor.X
open Go.RowKit Go.Proofs.YtdogpphfofimeaaDoorW.PrintWords Go.Proofs.YtdogpphfofimeaaDoor.E
noncomputable def mkA (q : Int) (_ : S58) : S58 := ⟨mt q, mt (q + 1)⟩
theorem sum2 {α : Type} (L : List α) : (L.map (fun _ => 2)).sum = 2 * L.length := by
  induction L with
  | nil => rfl
  | cons e L ih => rw [List.map_cons, List.sum_cons, ih, List.length_cons]; omega
theorem markAns (L : List S58) (q : Int) (h0 : 0 ≤ q) (hq : q + 2 * L.length ≤ 4611686018427387904) : Ev (fun k => laws_markAnswerS.f k L q) (q + (2 * L.length : Nat), markAll mkA (fun _ => 2) q L) := by
  have h := ev_mark (L := fun k l q i => laws_markAnswerS.l0 k l q i) L mkA (fun _ => 2) (fun out q ho => Ev.step (fun k => rfl) (ev_neg (by omega) (ev_now rfl))) ?hs q h0 (by rw [sum2]; omega)
  case hs =>
    intro out q i x y hi ho hx hxm hg h0 hb h
    have hw1 : wrap64 (q + 1) = q + 1 := wrap_id (by omega) (by omega)
    have hw2 : wrap64 (q + 1 + 1) = q + (2 : Nat) := by rw [wrap_id (by omega) (by omega)]; omega
    refine Ev.step (fun k => rfl) (ev_pos (by omega) (Ev.bind (mt_ev q (by omega)) (ev_pos (by omega) (ev_some ?_))))
    rw [hw1, hw2, wrap_succ hi (by omega)]
    refine Ev.bind (mt_ev (q + 1) (by omega)) ?_
    rw [Int.toNat_natCast, List.set_set, show (rd_T58 (out.set i (⟨mt q, (rd_T58 out i).f1⟩ : S58)) (i : Int)).f0 = mt q by unfold rd_T58; rw [Int.toNat_natCast, List.getD_eq_getElem?_getD, List.getElem?_set_self (by omega)]; rfl]
    exact h
  rw [sum2] at h
  exact h
end Go.Proofs.YtdogpphfofimeaaDoor.X
set_option linter.unusedVariables false
set_option linter.unusedSimpArgs false
namespace Go.Proofs.YtdogpphfofimeaaDoor.X
open Go.RowKit Go.Proofs.YtdogpphfofimeaaDoorW.PrintWords Go.Proofs.YtdogpphfofimeaaDoor.E
def mkI (q : Int) (_ : Int) : Int := q
theorem sum1i {α : Type} (L : List α) : (L.map (fun _ => 1)).sum = L.length := by
  induction L with
  | nil => rfl
  | cons e L ih => rw [List.map_cons, List.sum_cons, ih, List.length_cons]; omega
theorem markInt (L : List Int) (q : Int) (h0 : 0 ≤ q) (hq : q + L.length ≤ 4611686018427387904) : Ev (fun k => laws_markIntS.f k L q) (q + (L.length : Nat), markAll mkI (fun _ => 1) q L) := by
  have h := ev_mark (L := fun k l q i => laws_markIntS.l0 k l q i) L mkI (fun _ => 1) (fun out q ho => Ev.step (fun k => rfl) (ev_neg (by omega) (ev_now rfl))) ?hs q h0 (by rw [sum1i]; omega)
  case hs =>
    intro out q i x y hi ho hx hxm hg h0 hb h
    have hw1 : wrap64 (q + 1) = q + (1 : Nat) := by rw [wrap_id (by omega) (by omega)]; omega
    refine Ev.step (fun k => rfl) (ev_pos (by omega) (ev_pos (by omega) ?_))
    rw [hw1, wrap_succ hi (by omega), Int.toNat_natCast]
    exact h
  rw [sum1i] at h
  exact h
theorem heldInt (L : List Int) (q0 : Int) (h0 : 0 ≤ q0) (hq : q0 + L.length ≤ 4611686018427387904) : Ev (fun k => laws_heldIntS.f k (markAll mkI (fun _ => 1) q0 L) q0) (q0 + (L.length : Nat)) := by
  have hlen := markAll_length mkI (fun _ => 1) L q0
  have h := ev_held (H := fun k q i => laws_heldIntS.l0 k (markAll mkI (fun _ => 1) q0 L) q i) L (markAll mkI (fun _ => 1) q0 L) mkI (fun _ => 1) q0 rfl (fun q => Ev.step (fun k => rfl) (ev_neg (by omega) (ev_now rfl))) ?hs h0 (by rw [sum1i]; omega)
  case hs =>
    intro q i x y hi hxm hx hg h0 hb h
    have hw1 : wrap64 (q + 1) = q + (1 : Nat) := by rw [wrap_id (by omega) (by omega)]; omega
    have hr : rd (markAll mkI (fun _ => 1) q0 L) (i : Int) = q := by unfold rd; rw [Int.toNat_natCast]; exact hg _
    refine Ev.step (fun k => rfl) (ev_pos (by omega) (ev_pos (by omega) (ev_pos hr ?_)))
    rw [hw1, wrap_succ hi (by omega)]
    exact h
  rw [sum1i] at h
  exact h
end Go.Proofs.YtdogpphfofimeaaDoor.X
set_option linter.unusedVariables false
namespace Go.Proofs.YtdogpphfofimeaaDoor.X
open Go.RowKit Go.Proofs.YtdogpphfofimeaaDoorW.PrintWords Go.Proofs.YtdogpphfofimeaaDoor.E
def wt68 (x : S68) : Nat := x.f0.size + (x.f4.length + (x.f4.map (fun y => y.size)).sum) + x.f6.size
def wt76 (x : S76) : Nat := x.f0.size + x.f1.size
end Go.Proofs.YtdogpphfofimeaaDoor.X
set_option linter.unusedVariables false
namespace Go.Proofs.YtdogpphfofimeaaDoor.X
open Go.RowKit Go.Proofs.YtdogpphfofimeaaDoorW.PrintWords Go.Proofs.YtdogpphfofimeaaDoor.E
theorem laws_szStringS_ev (x : List (ByteArray)) (g0 : x.length ≤ 9223372036854775807) (g1 : ∀ y ∈ x, (y.size ≤ 9223372036854775807)) (left : Int) (h0 : 0 ≤ left) (h1 : left ≤ 4611686018427387904) :
    Ev (fun k => laws_szStringS.f k x left) (if (((x.length + (x.map (fun y => y.size)).sum) : Nat) : Int) ≤ left then left - (((x.length + (x.map (fun y => y.size)).sum) : Nat) : Int) else -1) := by
  unfold laws_szStringS.f
  have e0 : wrap64 (left - ((x.length : Nat) : Int)) = left - ((x.length : Nat) : Int) := wrap_id (by omega) (by omega)
  simp only [e0]
  by_cases c : ((x.length : Nat) : Int) ≤ left
  case neg => exact ev_pos (by omega) (ev_now (by first | rfl | rw [if_neg (by omega)]))
  refine ev_neg (by omega) ?_
  have h := ev_sz (L := fun k l i => laws_szStringS.l0 k x l i) x (fun y => y.size) (fun l => Ev.step (fun k => rfl) (ev_neg (by omega) (ev_now rfl))) ?step (left - ((x.length : Nat) : Int)) (by omega) (by omega)
  case step =>
    intro l i y r l0 l1 hi hm hd hy hn
    refine Ev.step (fun k => rfl) (ev_pos (by omega) (ev_pos (by omega) ?_))
    simp only [rdOf, Int.toNat_natCast, hd]
    have hg := g1 y hm
    have e1 : wrap64 (l - ((y.size : Nat) : Int)) = l - ((y.size : Nat) : Int) := wrap_id (by omega) (by omega)
    simp only [e1]
    by_cases c1 : ((y.size : Nat) : Int) ≤ l
    case neg => exact ev_pos (by omega) (ev_now (hn c1).symm)
    refine ev_neg (by omega) ?_
    rw [wrap_succ hi (by omega)]
    exact hy c1
  refine ev_cast h ?_
  by_cases c2 : (((x.map (fun y => y.size)).sum : Nat) : Int) ≤ left - ((x.length : Nat) : Int)
  · rw [if_pos c2, if_pos (by omega)]; omega
  · rw [if_neg c2, if_neg (by omega)]
end Go.Proofs.YtdogpphfofimeaaDoor.X
set_option linter.unusedVariables false
namespace Go.Proofs.YtdogpphfofimeaaDoor.X
open Go.RowKit Go.Proofs.YtdogpphfofimeaaDoorW.PrintWords Go.Proofs.YtdogpphfofimeaaDoor.E
theorem laws_szField_ev (x : S68) (g0 : x.f0.size ≤ 9223372036854775807) (g1 : x.f4.length ≤ 9223372036854775807) (g2 : ∀ y ∈ x.f4, (y.size ≤ 9223372036854775807)) (g3 : x.f6.size ≤ 9223372036854775807) (left : Int) (h0 : 0 ≤ left) (h1 : left ≤ 4611686018427387904) :
    Ev (fun k => laws_szField.f k (x.f0) (x.f1) (x.f2) (x.f3) (x.f4) (x.f5) (x.f6) left) (if (((wt68 x) : Nat) : Int) ≤ left then left - (((wt68 x) : Nat) : Int) else -1) := by
  unfold laws_szField.f
  unfold wt68
  have e0 : wrap64 (left - ((x.f0.size : Nat) : Int)) = left - ((x.f0.size : Nat) : Int) := wrap_id (by omega) (by omega)
  simp only [e0]
  by_cases c0 : ((x.f0.size : Nat) : Int) ≤ left
  case neg =>
    exact ev_pos (by omega) (ev_now (by first | rfl | rw [if_neg (by omega)]))
  refine ev_neg (by omega) ?_
  refine Ev.bind (laws_szStringS_ev _ (by assumption) (by assumption) _ (by omega) (by omega)) ?_
  by_cases c4 : (((x.f4.length + (x.f4.map (fun y => y.size)).sum) : Nat) : Int) ≤ (left - ((x.f0.size : Nat) : Int))
  case neg =>
    rw [if_neg c4]
    exact ev_pos (by omega) (ev_now (by first | rfl | rw [if_neg (by omega)]))
  rw [if_pos c4]
  refine ev_neg (by omega) ?_
  have e6 : wrap64 (((left - ((x.f0.size : Nat) : Int)) - (((x.f4.length + (x.f4.map (fun y => y.size)).sum) : Nat) : Int)) - ((x.f6.size : Nat) : Int)) = ((left - ((x.f0.size : Nat) : Int)) - (((x.f4.length + (x.f4.map (fun y => y.size)).sum) : Nat) : Int)) - ((x.f6.size : Nat) : Int) := wrap_id (by omega) (by omega)
  simp only [e6]
  by_cases c6 : ((x.f6.size : Nat) : Int) ≤ ((left - ((x.f0.size : Nat) : Int)) - (((x.f4.length + (x.f4.map (fun y => y.size)).sum) : Nat) : Int))
  case neg =>
    exact ev_pos (by omega) (ev_now (by first | rfl | rw [if_neg (by omega)]))
  refine ev_neg (by omega) ?_
  exact ev_now (by first | rfl | omega | (rw [if_pos (by omega)]; omega))
end Go.Proofs.YtdogpphfofimeaaDoor.X
set_option linter.unusedVariables false
namespace Go.Proofs.YtdogpphfofimeaaDoor.X
open Go.RowKit Go.Proofs.YtdogpphfofimeaaDoorW.PrintWords Go.Proofs.YtdogpphfofimeaaDoor.E
theorem laws_szFieldS_ev (x : List (S68)) (g0 : x.length ≤ 9223372036854775807) (g1 : ∀ y ∈ x, (y.f0.size ≤ 9223372036854775807) ∧ (y.f4.length ≤ 9223372036854775807) ∧ (∀ z ∈ y.f4, (z.size ≤ 9223372036854775807)) ∧ (y.f6.size ≤ 9223372036854775807)) (left : Int) (h0 : 0 ≤ left) (h1 : left ≤ 4611686018427387904) :
    Ev (fun k => laws_szFieldS.f k x left) (if (((x.length + (x.map (fun y => (wt68 y))).sum) : Nat) : Int) ≤ left then left - (((x.length + (x.map (fun y => (wt68 y))).sum) : Nat) : Int) else -1) := by
  unfold laws_szFieldS.f
  have e0 : wrap64 (left - ((x.length : Nat) : Int)) = left - ((x.length : Nat) : Int) := wrap_id (by omega) (by omega)
  simp only [e0]
  by_cases c : ((x.length : Nat) : Int) ≤ left
  case neg => exact ev_pos (by omega) (ev_now (by first | rfl | rw [if_neg (by omega)]))
  refine ev_neg (by omega) ?_
  have h := ev_sz (L := fun k l i => laws_szFieldS.l0 k x l i) x (fun y => (wt68 y)) (fun l => Ev.step (fun k => rfl) (ev_neg (by omega) (ev_now rfl))) ?step (left - ((x.length : Nat) : Int)) (by omega) (by omega)
  case step =>
    intro l i y r l0 l1 hi hm hd hy hn
    refine Ev.step (fun k => rfl) (ev_pos (by omega) (ev_pos (by omega) ?_))
    simp only [rd_T68, Int.toNat_natCast, hd]
    have hg := g1 y hm
    obtain ⟨q0, q1, q2, q3⟩ := hg
    refine Ev.bind (laws_szField_ev y (by assumption) (by assumption) (by assumption) (by assumption) l l0 l1) ?_
    by_cases c1 : (((wt68 y) : Nat) : Int) ≤ l
    case neg => rw [if_neg c1]; exact ev_pos (by omega) (ev_now (hn c1).symm)
    rw [if_pos c1]
    refine ev_neg (by omega) ?_
    rw [wrap_succ hi (by omega)]
    exact hy c1
  refine ev_cast h ?_
  by_cases c2 : (((x.map (fun y => (wt68 y))).sum : Nat) : Int) ≤ left - ((x.length : Nat) : Int)
  · rw [if_pos c2, if_pos (by omega)]; omega
  · rw [if_neg c2, if_neg (by omega)]
end Go.Proofs.YtdogpphfofimeaaDoor.X
set_option linter.unusedVariables false
namespace Go.Proofs.YtdogpphfofimeaaDoor.X
open Go.RowKit Go.Proofs.YtdogpphfofimeaaDoorW.PrintWords Go.Proofs.YtdogpphfofimeaaDoor.E
theorem laws_toStringS_ev (x : List (ByteArray)) (hb : (x.length + (x.map (fun y => y.size)).sum) ≤ 1048576) : Ev (fun k => laws_toStringS.f k x) (x) := by
  unfold laws_toStringS.f
  refine ev_pos (by omega) (ev_pos (by simp only [Int.toNat_natCast]; omega) ?_)
  simp only [Int.toNat_natCast]
  refine ev_cast (r := x.map id) ?_ (List.map_id x)
  refine ev_fill (L := fun k o i => laws_toStringS.l0 k x o i) x id _ (fun o => Ev.step (fun k => rfl) (ev_neg (by omega) (ev_now rfl))) ?_
  intro o i y r hi hx hd hl hk
  refine Ev.step (fun k => rfl) (ev_pos (by omega) (ev_pos (by omega) ?_))
  simp only [rdOf, Int.toNat_natCast, hd]
  refine ev_pos (by omega) ?_
  rw [wrap_succ hi (by omega)]
  exact hk
end Go.Proofs.YtdogpphfofimeaaDoor.X
set_option linter.unusedVariables false
namespace Go.Proofs.YtdogpphfofimeaaDoor.X
open Go.RowKit Go.Proofs.YtdogpphfofimeaaDoorW.PrintWords Go.Proofs.YtdogpphfofimeaaDoor.E
def conv68 (x : S68) : S69 := ⟨x.f0, x.f1, x.f2, x.f3, x.f4, x.f5, x.f6⟩
theorem laws_toField_ev (x : S68) (hb : (wt68 x) ≤ 1048576) : Ev (fun k => laws_toField.f k (x.f0) (x.f1) (x.f2) (x.f3) (x.f4) (x.f5) (x.f6)) ((conv68 x).f0, (conv68 x).f1, (conv68 x).f2, (conv68 x).f3, (conv68 x).f4, (conv68 x).f5, (conv68 x).f6) := by
  unfold laws_toField.f
  unfold wt68 at hb
  refine Ev.bind (laws_toStringS_ev x.f4 (by omega)) ?_
  exact ev_now rfl
end Go.Proofs.YtdogpphfofimeaaDoor.X
set_option linter.unusedVariables false
namespace Go.Proofs.YtdogpphfofimeaaDoor.X
open Go.RowKit Go.Proofs.YtdogpphfofimeaaDoorW.PrintWords Go.Proofs.YtdogpphfofimeaaDoor.E
theorem laws_toFieldS_ev (x : List (S68)) (hb : (x.length + (x.map (fun y => (wt68 y))).sum) ≤ 1048576) : Ev (fun k => laws_toFieldS.f k x) (x.map conv68) := by
  unfold laws_toFieldS.f
  refine ev_pos (by omega) (ev_pos (by simp only [Int.toNat_natCast]; omega) ?_)
  simp only [Int.toNat_natCast]
  refine ev_fill (L := fun k o i => laws_toFieldS.l0 k x o i) x conv68 _ (fun o => Ev.step (fun k => rfl) (ev_neg (by omega) (ev_now rfl))) ?_
  intro o i y r hi hx hd hl hk
  refine Ev.step (fun k => rfl) (ev_pos (by omega) (ev_pos (by omega) ?_))
  simp only [rd_T68, Int.toNat_natCast, hd]
  have hq := le_sum (f := fun y => (wt68 y)) (List.mem_of_getElem? hx)
  refine Ev.bind (laws_toField_ev y (by omega)) ?_
  refine ev_pos (by omega) ?_
  rw [wrap_succ hi (by omega)]
  exact hk
end Go.Proofs.YtdogpphfofimeaaDoor.X
set_option linter.unusedVariables false
namespace Go.Proofs.YtdogpphfofimeaaDoor.X
open Go.RowKit Go.Proofs.YtdogpphfofimeaaDoorW.PrintWords Go.Proofs.YtdogpphfofimeaaDoor.E
theorem laws_eqStringS_ev (x : List (ByteArray)) (hl0 : x.length ≤ 9223372036854775807) : Ev (fun k => laws_eqStringS.f k x x) true := by
  unfold laws_eqStringS.f
  refine ev_pos rfl ?_
  refine ev_same (L := fun k i => laws_eqStringS.l0 k x x i) x.length (Ev.step (fun k => rfl) (ev_neg (by omega) (ev_now rfl))) ?_
  intro i hi hk
  refine Ev.step (fun k => rfl) (ev_pos (by omega) (ev_pos (by omega) (ev_pos (by omega) ?_)))
  refine ev_pos rfl ?_
  rw [wrap_succ hi (by omega)]
  exact hk
end Go.Proofs.YtdogpphfofimeaaDoor.X
set_option linter.unusedVariables false
namespace Go.Proofs.YtdogpphfofimeaaDoor.X
open Go.RowKit Go.Proofs.YtdogpphfofimeaaDoorW.PrintWords Go.Proofs.YtdogpphfofimeaaDoor.E
theorem laws_eqField_ev (x : S69) (hl0 : x.f4.length ≤ 9223372036854775807) : Ev (fun k => laws_eqField.f k (x.f0) (x.f1) (x.f2) (x.f3) (x.f4) (x.f5) (x.f6) (x.f0) (x.f1) (x.f2) (x.f3) (x.f4) (x.f5) (x.f6)) true := by
  unfold laws_eqField.f
  repeat' (first | exact ev_now rfl | refine ev_pos rfl ?_ | refine ev_neg (by simp) ?_ | refine Ev.bind (laws_eqStringS_ev _ (by assumption)) ?_)
end Go.Proofs.YtdogpphfofimeaaDoor.X
set_option linter.unusedVariables false
namespace Go.Proofs.YtdogpphfofimeaaDoor.X
open Go.RowKit Go.Proofs.YtdogpphfofimeaaDoorW.PrintWords Go.Proofs.YtdogpphfofimeaaDoor.E
theorem laws_eqFieldS_ev (x : List (S69)) (hl0 : x.length ≤ 9223372036854775807) (hl1 : ∀ y ∈ x, (y.f4.length ≤ 9223372036854775807)) : Ev (fun k => laws_eqFieldS.f k x x) true := by
  unfold laws_eqFieldS.f
  refine ev_pos rfl ?_
  refine ev_same (L := fun k i => laws_eqFieldS.l0 k x x i) x.length (Ev.step (fun k => rfl) (ev_neg (by omega) (ev_now rfl))) ?_
  intro i hi hk
  refine Ev.step (fun k => rfl) (ev_pos (by omega) (ev_pos (by omega) (ev_pos (by omega) ?_)))
  have hy := hl1 _ (List.getElem_mem hi)
  have hr : rd_T69 x (i : Int) = x[i] := by simp [rd_T69, List.getD_eq_getElem?_getD, List.getElem?_eq_getElem hi]
  rw [hr]
  refine Ev.bind (laws_eqField_ev _ (by first | exact hy | exact hy)) ?_
  refine ev_pos rfl ?_
  rw [wrap_succ hi (by omega)]
  exact hk
end Go.Proofs.YtdogpphfofimeaaDoor.X
set_option linter.unusedVariables false
namespace Go.Proofs.YtdogpphfofimeaaDoor.X
open Go.RowKit Go.Proofs.YtdogpphfofimeaaDoorW.PrintWords Go.Proofs.YtdogpphfofimeaaDoor.E
theorem laws_szAnswer_ev (x : S76) (g0 : x.f0.size ≤ 9223372036854775807) (g1 : x.f1.size ≤ 9223372036854775807) (left : Int) (h0 : 0 ≤ left) (h1 : left ≤ 4611686018427387904) :
    Ev (fun k => laws_szAnswer.f (x.f0) (x.f1) left) (if (((wt76 x) : Nat) : Int) ≤ left then left - (((wt76 x) : Nat) : Int) else -1) := by
  unfold laws_szAnswer.f
  unfold wt76
  have e0 : wrap64 (left - ((x.f0.size : Nat) : Int)) = left - ((x.f0.size : Nat) : Int) := wrap_id (by omega) (by omega)
  simp only [e0]
  by_cases c0 : ((x.f0.size : Nat) : Int) ≤ left
  case neg =>
    exact ev_pos (by omega) (ev_now (by first | rfl | rw [if_neg (by omega)]))
  refine ev_neg (by omega) ?_
  have e1 : wrap64 ((left - ((x.f0.size : Nat) : Int)) - ((x.f1.size : Nat) : Int)) = (left - ((x.f0.size : Nat) : Int)) - ((x.f1.size : Nat) : Int) := wrap_id (by omega) (by omega)
  simp only [e1]
  by_cases c1 : ((x.f1.size : Nat) : Int) ≤ (left - ((x.f0.size : Nat) : Int))
  case neg =>
    exact ev_pos (by omega) (ev_now (by first | rfl | rw [if_neg (by omega)]))
  refine ev_neg (by omega) ?_
  exact ev_now (by first | rfl | omega | (rw [if_pos (by omega)]; omega))
end Go.Proofs.YtdogpphfofimeaaDoor.X
set_option linter.unusedVariables false
namespace Go.Proofs.YtdogpphfofimeaaDoor.X
open Go.RowKit Go.Proofs.YtdogpphfofimeaaDoorW.PrintWords Go.Proofs.YtdogpphfofimeaaDoor.E
theorem laws_szAnswerS_ev (x : List (S76)) (g0 : x.length ≤ 9223372036854775807) (g1 : ∀ y ∈ x, (y.f0.size ≤ 9223372036854775807) ∧ (y.f1.size ≤ 9223372036854775807)) (left : Int) (h0 : 0 ≤ left) (h1 : left ≤ 4611686018427387904) :
    Ev (fun k => laws_szAnswerS.f k x left) (if (((x.length + (x.map (fun y => (wt76 y))).sum) : Nat) : Int) ≤ left then left - (((x.length + (x.map (fun y => (wt76 y))).sum) : Nat) : Int) else -1) := by
  unfold laws_szAnswerS.f
  have e0 : wrap64 (left - ((x.length : Nat) : Int)) = left - ((x.length : Nat) : Int) := wrap_id (by omega) (by omega)
  simp only [e0]
  by_cases c : ((x.length : Nat) : Int) ≤ left
  case neg => exact ev_pos (by omega) (ev_now (by first | rfl | rw [if_neg (by omega)]))
  refine ev_neg (by omega) ?_
  have h := ev_sz (L := fun k l i => laws_szAnswerS.l0 k x l i) x (fun y => (wt76 y)) (fun l => Ev.step (fun k => rfl) (ev_neg (by omega) (ev_now rfl))) ?step (left - ((x.length : Nat) : Int)) (by omega) (by omega)
  case step =>
    intro l i y r l0 l1 hi hm hd hy hn
    refine Ev.step (fun k => rfl) (ev_pos (by omega) (ev_pos (by omega) ?_))
    simp only [rd_T76, Int.toNat_natCast, hd]
    have hg := g1 y hm
    obtain ⟨q0, q1⟩ := hg
    refine Ev.bind (laws_szAnswer_ev y (by assumption) (by assumption) l l0 l1) ?_
    by_cases c1 : (((wt76 y) : Nat) : Int) ≤ l
    case neg => rw [if_neg c1]; exact ev_pos (by omega) (ev_now (hn c1).symm)
    rw [if_pos c1]
    refine ev_neg (by omega) ?_
    rw [wrap_succ hi (by omega)]
    exact hy c1
  refine ev_cast h ?_
  by_cases c2 : (((x.map (fun y => (wt76 y))).sum : Nat) : Int) ≤ left - ((x.length : Nat) : Int)
  · rw [if_pos c2, if_pos (by omega)]; omega
  · rw [if_neg c2, if_neg (by omega)]
end Go.Proofs.YtdogpphfofimeaaDoor.X
set_option linter.unusedVariables false
namespace Go.Proofs.YtdogpphfofimeaaDoor.X
open Go.RowKit Go.Proofs.YtdogpphfofimeaaDoorW.PrintWords Go.Proofs.YtdogpphfofimeaaDoor.E
def conv76 (x : S76) : S58 := ⟨x.f0, x.f1⟩
theorem laws_toAnswer_ev (x : S76) (hb : (wt76 x) ≤ 1048576) : Ev (fun k => laws_toAnswer.f (x.f0) (x.f1)) ((conv76 x).f0, (conv76 x).f1) := by
  unfold laws_toAnswer.f
  unfold wt76 at hb
  exact ev_now rfl
end Go.Proofs.YtdogpphfofimeaaDoor.X
set_option linter.unusedVariables false
namespace Go.Proofs.YtdogpphfofimeaaDoor.X
open Go.RowKit Go.Proofs.YtdogpphfofimeaaDoorW.PrintWords Go.Proofs.YtdogpphfofimeaaDoor.E
theorem laws_toAnswerS_ev (x : List (S76)) (hb : (x.length + (x.map (fun y => (wt76 y))).sum) ≤ 1048576) : Ev (fun k => laws_toAnswerS.f k x) (x.map conv76) := by
  unfold laws_toAnswerS.f
  refine ev_pos (by omega) (ev_pos (by simp only [Int.toNat_natCast]; omega) ?_)
  simp only [Int.toNat_natCast]
  refine ev_fill (L := fun k o i => laws_toAnswerS.l0 k x o i) x conv76 _ (fun o => Ev.step (fun k => rfl) (ev_neg (by omega) (ev_now rfl))) ?_
  intro o i y r hi hx hd hl hk
  refine Ev.step (fun k => rfl) (ev_pos (by omega) (ev_pos (by omega) ?_))
  simp only [rd_T76, Int.toNat_natCast, hd]
  have hq := le_sum (f := fun y => (wt76 y)) (List.mem_of_getElem? hx)
  refine Ev.bind (laws_toAnswer_ev y (by omega)) ?_
  refine ev_pos (by omega) ?_
  rw [wrap_succ hi (by omega)]
  exact hk
end Go.Proofs.YtdogpphfofimeaaDoor.X
set_option linter.unusedVariables false
namespace Go.Proofs.YtdogpphfofimeaaDoor.X
open Go.RowKit Go.Proofs.YtdogpphfofimeaaDoorW.PrintWords Go.Proofs.YtdogpphfofimeaaDoor.E
theorem laws_eqAnswer_ev (x : S58) : Ev (fun k => laws_eqAnswer.f (x.f0) (x.f1) (x.f0) (x.f1)) true := by
  unfold laws_eqAnswer.f
  repeat' (first | exact ev_now rfl | refine ev_pos rfl ?_ | refine ev_neg (by simp) ?_)
end Go.Proofs.YtdogpphfofimeaaDoor.X
set_option linter.unusedVariables false
namespace Go.Proofs.YtdogpphfofimeaaDoor.X
open Go.RowKit Go.Proofs.YtdogpphfofimeaaDoorW.PrintWords Go.Proofs.YtdogpphfofimeaaDoor.E
theorem laws_eqAnswerS_ev (x : List (S58)) (hl0 : x.length ≤ 9223372036854775807) : Ev (fun k => laws_eqAnswerS.f k x x) true := by
  unfold laws_eqAnswerS.f
  refine ev_pos rfl ?_
  refine ev_same (L := fun k i => laws_eqAnswerS.l0 k x x i) x.length (Ev.step (fun k => rfl) (ev_neg (by omega) (ev_now rfl))) ?_
  intro i hi hk
  refine Ev.step (fun k => rfl) (ev_pos (by omega) (ev_pos (by omega) (ev_pos (by omega) ?_)))
  refine Ev.bind (laws_eqAnswer_ev _) ?_
  refine ev_pos rfl ?_
  rw [wrap_succ hi (by omega)]
  exact hk
end Go.Proofs.YtdogpphfofimeaaDoor.X
set_option linter.unusedVariables false
namespace Go.Proofs.YtdogpphfofimeaaDoor.X
open Go.RowKit Go.Proofs.YtdogpphfofimeaaDoorW.PrintWords Go.Proofs.YtdogpphfofimeaaDoor.E
theorem laws_eqIntS_ev (x : List (Int)) (hl0 : x.length ≤ 9223372036854775807) : Ev (fun k => laws_eqIntS.f k x x) true := by
  unfold laws_eqIntS.f
  refine ev_pos rfl ?_
  refine ev_same (L := fun k i => laws_eqIntS.l0 k x x i) x.length (Ev.step (fun k => rfl) (ev_neg (by omega) (ev_now rfl))) ?_
  intro i hi hk
  refine Ev.step (fun k => rfl) (ev_pos (by omega) (ev_pos (by omega) (ev_pos (by omega) ?_)))
  refine ev_pos rfl ?_
  rw [wrap_succ hi (by omega)]
  exact hk
end Go.Proofs.YtdogpphfofimeaaDoor.X
set_option linter.unusedVariables false
set_option linter.unusedSimpArgs false
namespace Go.Proofs.YtdogpphfofimeaaDoor.Pure
open Go.RowKit Go.Proofs.YtdogpphfofimeaaDoor.X Go.Proofs.YtdogpphfofimeaaDoorW.PrintWords Go.Proofs.YtdogpphfofimeaaDoor.E
theorem chk_both (form : List X.Field) (ans : List X.Answer) (hl : form.length ≤ 9223372036854775807) (hf : ∀ f ∈ form, fine f) (hla : ans.length ≤ 9223372036854775807) (ha : ∀ a ∈ ans, fineA a) (hs : ∀ a ∈ ans, a.f1.size ≤ 1048576) :
    ∃ (L : List Int) (b : Bool), L.length ≤ 10 ∧ Ev (fun k => spec_CheckAnswers.f k form ans) (L, b) ∧ Ev (fun k => impl_CheckAnswers.f k form ans) (L, b) := by
  have h1 := specAnswers_ev form ans hl hf hla ha
  have h2 := implAnswers_ev form ans hl hf hla ha
  cases hv : ansB form ans
  · rw [hv] at h1 h2
    exact ⟨[], false, by simp, Ev.bind h1 (ev_neg (by simp) (ev_now rfl)), Ev.bind h2 (ev_neg (by simp) (ev_now rfl))⟩
  rw [hv] at h1 h2
  have V := valid_of hv
  have hlen := V.len
  exact ⟨statesL form ans form.length, true, by rw [statesL_length]; exact hlen, Ev.bind h1 (ev_pos rfl (Ev.bind (specStates_ev form ans V hla hf) (ev_now rfl))), Ev.bind h2 (ev_pos rfl (Ev.bind (implStates_ev form ans V hf hs) (ev_now rfl)))⟩
theorem wt_one {α : Type} (g : α → Nat) : ∀ (l : List α) (y : α), y ∈ l → g y ≤ (l.map g).sum
  | [], y, h => nomatch h
  | a :: l, y, h => by
    rw [List.map_cons, List.sum_cons]
    rcases List.mem_cons.1 h with rfl | h
    · omega
    · have := wt_one g l y h
      omega
theorem wF_sum (l : List S68) : ((l.map conv68).map wF).sum ≤ 6 * l.length + (l.map (fun y => wt68 y)).sum := by
  induction l with
  | nil => exact Nat.le_refl _
  | cons y l ih =>
    rw [List.map_cons, List.map_cons, List.sum_cons, List.map_cons, List.sum_cons, List.length_cons]
    have h1 : wF (conv68 y) = 6 + y.f4.length := rfl
    have h2 : y.f4.length ≤ wt68 y := by unfold wt68; omega
    omega
theorem FnExactCheckAnswers : PureFnExactCheckAnswers := by
  intro form ans hf ha
  have hsz : ∀ y ∈ form, (y.f0.size ≤ 9223372036854775807) ∧ (y.f4.length ≤ 9223372036854775807) ∧ (∀ z ∈ y.f4, (z.size ≤ 9223372036854775807)) ∧ (y.f6.size ≤ 9223372036854775807) := by
    intro y hy
    have g := hf.2 y hy
    exact ⟨g.1, g.2.2.2.2.1.1, g.2.2.2.2.1.2, g.2.2.2.2.2.2⟩
  have hsa : ∀ y ∈ ans, (y.f0.size ≤ 9223372036854775807) ∧ (y.f1.size ≤ 9223372036854775807) := fun y hy => ha.2 y hy
  unfold laws_FnExactCheckAnswers.f
  refine ev_get (Ev.bind (laws_szFieldS_ev form hf.1 hsz 1048576 (by omega) (by omega)) ?_)
  by_cases c : (((form.length + (form.map (fun y => wt68 y)).sum : Nat)) : Int) ≤ 1048576
  case neg => rw [if_neg c]; exact ev_pos (by omega) (ev_now rfl)
  rw [if_pos c]
  refine ev_neg (by omega) (Ev.bind (laws_szAnswerS_ev ans ha.1 hsa _ (by omega) (by omega)) ?_)
  by_cases c2 : (((ans.length + (ans.map (fun y => wt76 y)).sum : Nat)) : Int) ≤ 1048576 - (((form.length + (form.map (fun y => wt68 y)).sum : Nat)) : Int)
  case neg => rw [if_neg c2]; exact ev_pos (by omega) (ev_now rfl)
  rw [if_pos c2]
  refine ev_neg (by omega) ?_
  have hto := laws_toFieldS_ev form (by omega)
  have hta := laws_toAnswerS_ev ans (by omega)
  have hl : (form.map conv68).length ≤ 9223372036854775807 := by rw [List.length_map]; exact hf.1
  have hla : (ans.map conv76).length ≤ 9223372036854775807 := by rw [List.length_map]; exact ha.1
  have hll : (ans.map conv76).length = ans.length := List.length_map ..
  have hfine : ∀ f ∈ form.map conv68, fine f := by
    intro f hf'
    obtain ⟨y, hy, rfl⟩ := List.mem_map.1 hf'
    have g := hsz y hy
    exact ⟨g.1, g.2.1, g.2.2.1, g.2.2.2⟩
  have hfineA : ∀ f ∈ ans.map conv76, fineA f := by
    intro f hf'
    obtain ⟨y, hy, rfl⟩ := List.mem_map.1 hf'
    exact hsa y hy
  have hws := wF_sum form
  have hsmall : ∀ a ∈ ans.map conv76, a.f1.size ≤ 1048576 := by
    intro f hf'
    obtain ⟨y, hy, rfl⟩ := List.mem_map.1 hf'
    have g := wt_one (fun y => wt76 y) ans y hy
    have g2 : y.f1.size ≤ wt76 y := by unfold wt76; omega
    show y.f1.size ≤ 1048576
    omega
  obtain ⟨L, b, hL, g1, g2⟩ := chk_both (form.map conv68) (ans.map conv76) hl hfine hla hfineA hsmall
  have heF := laws_eqFieldS_ev _ hl (fun f hf' => (hfine f hf').2.1)
  have heA := laws_eqAnswerS_ev _ hla
  have heL := laws_eqIntS_ev L (by omega)
  have hm1 := markField (form.map conv68) 1 (by omega) (by omega)
  have hm2 := markAns (ans.map conv76) (1 + ((((form.map conv68).map wF).sum : Nat) : Int)) (by omega) (by omega)
  have hm3 := markInt L 1 (by omega) (by omega)
  have hh := heldInt L 1 (by omega) (by omega)
  refine Ev.bind hto (Ev.bind hta (Ev.bind g1 (Ev.bind hto (Ev.bind hta (Ev.bind g2 (Ev.bind heL (ev_pos rfl (ev_pos rfl ?_))))))))
  refine Ev.bind hto (Ev.bind heF (ev_pos rfl (Ev.bind hta (Ev.bind heA (ev_pos rfl (Ev.bind hm1 (Ev.bind hm2 (ev_pos (by omega) (Ev.bind heL (ev_pos rfl (ev_pos rfl ?_)))))))))))
  refine Ev.bind hm3 (Ev.bind hh (ev_pos (by omega) (ev_pos rfl (Ev.bind hto (Ev.bind hta (Ev.bind g2 (Ev.bind heL (ev_pos rfl (ev_pos rfl ?_)))))))))
  exact Ev.bind hh (ev_pos (by omega) (ev_pos rfl (ev_now rfl)))
end Go.Proofs.YtdogpphfofimeaaDoor.Pure
namespace Go.Proofs.YtdogpphfofimeaaDoor.fnExactCheckAnswers
open Go.ChangeShapes Go.WideShapes Go.ChangeAt Go.RowKit Go.Joins Go.Proofs.YtdogpphfofimeaaDoorW.PrintWords Go.Proofs.YtdogpphfofimeaaDoor.Open Go.Proofs.YtdogpphfofimeaaDoor.X
open Go.ChangeMaps (open_string shut_string)
set_option linter.unusedVariables false
theorem own : ownKnob Tryd.prog.godebug = none := by kernel_rfl
def laid : List (String × DataW Unit) := [("math/bits.deBruijn32tab", Rows.laid_math_bits_deBruijn32tab), ("math/bits.deBruijn64tab", Rows.laid_math_bits_deBruijn64tab), ("internal/strconv.uint64pow10", Rows.laid_internal_strconv_uint64pow10), ("strconv.ErrRange", Rows.laid_strconv_ErrRange), ("strconv.ErrSyntax", Rows.laid_strconv_ErrSyntax)]
theorem door_met (os : Os) (args : Array Value) : laidMetH Tryd.prog laid ((World.doorLaid Tryd.prog 72 os).forCall (fun _ _ => 0) ⟨#[], args, []⟩).memory :=
  laidMetH_of_parts3 (fuel := 8) (laidMet_of_run' 8 (by kernel_rfl) (by kernel_rfl)) (by kernel_rfl) (by kernel_rfl)
theorem gTab : Tryd.prog.globalNamed "internal/strconv.uint64pow10" = some 1 := by kernel_rfl
theorem gTabType : (Tryd.prog.globals[1]?).map (·.type) = some 154 := by kernel_rfl
theorem cellsT : Tryd.prog.cellsOf 154 = 20 := by kernel_rfl
theorem cellsE : Tryd.prog.cellsOf 85 = 1 := by kernel_rfl
theorem only : laid.filter (fun x => x.1 == "internal/strconv.uint64pow10") = [("internal/strconv.uint64pow10", Lib.tabData .u64 Lib.pow10Tab)] := by kernel_rfl
theorem tableT {W : World} (h : laidMetH Tryd.prog laid W) : GT W := by
  have h2 := h.filter (fun x => x.1 == "internal/strconv.uint64pow10")
  rw [only] at h2
  rw [MakeChecks.laidMetH_plain _ _ _ (by kernel_rfl)] at h2
  exact Lib.tabIs_of_head (rest := []) gTab gTabType Tryd.underlying154 Tryd.underlying85 cellsE cellsT h2
theorem star : "*" ++ "errors.errorString" = "*errors.errorString" := by decide
theorem rowE (u : TypeId) (h : Tryd.prog.typeName? 3 u = some "*errors.errorString") : u = 172 := typeName_ptr_named (nm := "errors.errorString") (by rw [star]; kernel_rfl) (by kernel_rfl) (by decide) u (by rw [star]; exact h)
theorem gErrSyntax : Tryd.prog.globalNamed "strconv.ErrSyntax" = some 4 := by kernel_rfl
theorem onlyErrSyntax : laid.filter (fun x => x.1 == "strconv.ErrSyntax") = [("strconv.ErrSyntax", Rows.laid_strconv_ErrSyntax)] := by kernel_rfl
theorem cellErrSyntax {W : World} (h : laidMetH Tryd.prog laid W) : ∃ t v, W.cell? ⟨4, 0, none⟩ = some (.iface t v) := by
  have h2 := h.filter (fun x => x.1 == "strconv.ErrSyntax")
  rw [onlyErrSyntax] at h2
  rw [MakeChecks.laidMetH_plain _ _ _ (by kernel_rfl)] at h2
  unfold Rows.laid_strconv_ErrSyntax at h2
  obtain ⟨a, s, hv, _, _, _⟩ := laid_sentinel h2 gErrSyntax (by kernel_rfl : (Tryd.prog.globals[4]?).map (·.type) = some 124) Tryd.underlying124 rowE Tryd.underlying172 Tryd.underlying174 rfl rfl Tryd.underlying9 (by kernel_rfl : Tryd.prog.cellsOf 174 = 1) (by kernel_rfl : Tryd.prog.cellsOf 9 = 1)
  exact ⟨_, _, World.var?_cell gErrSyntax hv 0⟩
theorem gErrRange : Tryd.prog.globalNamed "strconv.ErrRange" = some 5 := by kernel_rfl
theorem onlyErrRange : laid.filter (fun x => x.1 == "strconv.ErrRange") = [("strconv.ErrRange", Rows.laid_strconv_ErrRange)] := by kernel_rfl
theorem cellErrRange {W : World} (h : laidMetH Tryd.prog laid W) : ∃ t v, W.cell? ⟨5, 0, none⟩ = some (.iface t v) := by
  have h2 := h.filter (fun x => x.1 == "strconv.ErrRange")
  rw [onlyErrRange] at h2
  rw [MakeChecks.laidMetH_plain _ _ _ (by kernel_rfl)] at h2
  unfold Rows.laid_strconv_ErrRange at h2
  obtain ⟨a, s, hv, _, _, _⟩ := laid_sentinel h2 gErrRange (by kernel_rfl : (Tryd.prog.globals[5]?).map (·.type) = some 124) Tryd.underlying124 rowE Tryd.underlying172 Tryd.underlying174 rfl rfl Tryd.underlying9 (by kernel_rfl : Tryd.prog.cellsOf 174 = 1) (by kernel_rfl : Tryd.prog.cellsOf 9 = 1)
  exact ⟨_, _, World.var?_cell gErrRange hv 0⟩
theorem table {W : World} (h : laidMetH Tryd.prog laid W) : GE W := ⟨tableT h, cellErrSyntax h, cellErrRange h⟩
theorem laidOut : laidOutB Tryd.prog = true := by kernel_rfl
set_option maxRecDepth 100000 in
theorem lifted (os : Os) (started : os.Started) (H : Type) (enc : TypeId × Value → H) :
    ReturnsInHanded {} Tryd.checked os 5 .any (fun w args => (Rows.fnExactCheckAnswersSpec.pre enc Tryd.prog Tryd.f5 [] false w args ∧ laidMetH Tryd.prog laid w) ∧ sizedMet enc Tryd.prog Tryd.f5 (OpenSpec.ofChange Rows.fnExactCheckAnswersSpec) false w args)
      (Rows.fnExactCheckAnswersSpec.post enc Tryd.prog Tryd.f5 false true false false) := by
  refine returnsInHanded_of_change_and (C := Tryd.checked) (X := fun w _ => laidMetH Tryd.prog laid w) (fun _ _ _ hh h => h.of_heap hh) own started (by kernel_rfl) Tryd.func5
    (ChangeSpec.witness_shaped (enc := enc) (C := Tryd.checked) (os := os) (X := fun w _ => laidMetH Tryd.prog laid w) false (World.doorLaid Tryd.prog 72 os) #[.slice none 0 0, .slice none 0 0] 8 rfl (World.shaped_of_RefB (by kernel_rfl) (by kernel_rfl)) (by kernel_rfl) (by kernel_rfl) (by kernel_rfl) (door_met os _)) ?_
  intro W base args ds gs before hval0 hW hcnd hsz0 hL _
  have hval : ∀ (j : Nat) t v, Tryd.f5.params[j]? = some t → args[j]? = some v → Value.okWide Tryd.prog W .any base t v := hval0
  have hW' := hW
  obtain ⟨p, q, hA0, hV, rfl, hfz, hnd⟩ := hW
  have hA : DataW.TrodAll enc Tryd.prog W 0 (fun _ => true) true Tryd.f5.params.toList args.toList ds p := hA0
  rw [Tryd.params5] at hA hval
  obtain ⟨v0, vs0, d0, ds0, p0, q0, hargs, rfl, rfl, h0, r0⟩ := trodAll_cons hA
  obtain ⟨v1, vs1, d1, ds1, p1, q1, rfl, rfl, rfl, h1, r1⟩ := trodAll_cons r0
  obtain ⟨rfl, rfl, rfl⟩ := trodAll_nil r1
  obtain rfl : args = #[v0, v1] := by cases args; simp_all
  obtain ⟨rfl, rfl⟩ := trodVars_none hV
  have kk0 := h0
  have lt0 : ∀ x ∈ p0, x.block < W.heap.size := by obtain ⟨m, hm⟩ := kk0; exact DataW.trod_lt m _ _ _ hm
  obtain ⟨A0, c0, a0, rfl, hc0, hr0, g0⟩ := arg_slice op22 (okWide_slice Tryd.underlying22 (hval 0 22 v0 rfl rfl)) h0
  have kk1 := h1
  have lt1 : ∀ x ∈ p1, x.block < W.heap.size := by obtain ⟨m, hm⟩ := kk1; exact DataW.trod_lt m _ _ _ hm
  obtain ⟨A1, c1, a1, rfl, hc1, hr1, g1⟩ := arg_slice op30 (okWide_slice Tryd.underlying30 (hval 1 30 v1 rfl rfl)) h1
  clear hA0 hval0 hsz0
  obtain ⟨k, hk⟩ := Pure.FnExactCheckAnswers a0 a1 g0 g1
  refine (X.laws_FnExactCheckAnswers.calls k _ _ a0 _ _ a1 true W hr0 hc0 hr1 hc1 (table hL) hk).mono ?_
  rintro e W' ⟨he, bel0⟩
  have bel : Below W.heap.size W W' := by first | exact bel0 | exact bel0.below
  subst he
  exact ⟨_, rfl, _, _, _, [], _, [], hW', trodAll_mk1 (shut_bool Tryd.underlying4 _), (trodAll_cons_mk (Below.trod laidOut (by kernel_rfl) (of_decide_eq_true (by kernel_rfl)) kk0 bel lt0) (trodAll_cons_mk (Below.trod laidOut (by kernel_rfl) (of_decide_eq_true (by kernel_rfl)) kk1 bel lt1) trodAll_mk0)), rfl, bel.frame _, fun h => by cases h⟩
theorem over : Rows.fnExactCheckAnswersRow.holds Tryd.pinned (OpenSpec.ofChange Rows.fnExactCheckAnswersSpec) :=
  OpenClaim.holds_of_wide 5 Tryd.f5 rfl rfl rfl rfl rfl rfl rfl ⟨rfl, rfl, rfl, rfl, rfl⟩ rfl rfl rfl rfl rfl (by kernel_rfl) Tryd.func5 (by kernel_rfl)
    (of_decide_eq_true (by kernel_rfl)) (by unfold Func.isWrapper; first | (rw [if_pos (by decide +kernel)]; kernel_rfl) | (rw [if_neg (by decide +kernel)]; exact ⟨rfl, rfl⟩))
    (fun os started H enc _ => lifted os started H enc)
theorem proved : Rows.FnExactCheckAnswersSaid := over
#print axioms proved
theorem plain (f : FuncId) (fn : Func) (hf : Tryd.pinned.checked.prog.funcNamed "loop.example/g00876/laws.FnExactCheckAnswers" = some f) (hfn : Tryd.pinned.checked.prog.funcs[f]? = some fn) :
    true = Tryd.pinned.checked.prog.looks [] ∧ ∀ (j : Nat) t, fn.params[j]? = some t → Tryd.pinned.checked.prog.wantsStandIn t = false := by
  obtain rfl : f = 5 := Option.some.inj ((show Tryd.prog.funcNamed "loop.example/g00876/laws.FnExactCheckAnswers" = some 5 by kernel_rfl).symm.trans hf) |>.symm
  obtain rfl : fn = Tryd.f5 := (Option.some.inj (Tryd.func5.symm.trans hfn)).symm
  refine ⟨by kernel_rfl, fun j t ht => ?_⟩
  rw [Tryd.params5] at ht
  have hm := Array.mem_of_getElem? ht
  simp only [List.mem_toArray, List.mem_cons, List.not_mem_nil, or_false] at hm
  rcases hm with rfl | rfl
  · exact (show Tryd.prog.wantsStandIn 22 = false by kernel_rfl)
  · exact (show Tryd.prog.wantsStandIn 30 = false by kernel_rfl)
theorem card : Rows.FnExactCheckAnswersCardSaid :=
  Claim7.holds_tied_plain_at .later [] _ _ _ _ proved (fun _ h => by cases h) (by kernel_rfl) (fun _ h => by cases h) fnExactCheckAnswers_row_tie rfl ⟨rfl, rfl⟩ (by kernel_rfl) rfl plain (by kernel_rfl)
#print axioms card
end Go.Proofs.YtdogpphfofimeaaDoor.fnExactCheckAnswers
namespace Go.Proofs.YtdogpphfofimeaaDoor
/-- The row, under a short name, for the claim. -/
theorem fnExactCheckAnswers_holds : Rows.FnExactCheckAnswersSaid := fnExactCheckAnswers.proved
/-- The card, under a short name. -/
theorem fnExactCheckAnswersCard_holds : Rows.FnExactCheckAnswersCardSaid := fnExactCheckAnswers.card
end Go.Proofs.YtdogpphfofimeaaDoor
