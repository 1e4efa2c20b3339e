/- For all integers a and b the law FnExactMayShare answers true: the program's MayShare and the reference's MayShare give the same two answers. No further condition. -/
import Derived.Test.YtdhndojmekcjhaaPFnExactMaySharex1
namespace Go.Proofs.Ytdhndojmekcjhaa.Pure
open Go.RowKit Go.Proofs.Ytdhndojmekcjhaa.PFnExactMayShare Go.Proofs.YtdhndojmekcjhaaW.PrintWords Go.Proofs.YtdhndojmekcjhaaW.PrintLast

theorem may_in (a l h : Int) : spec_l1In.f a l h = some (decide (l ≤ a ∧ a ≤ h)) := by
  unfold spec_l1In.f
  by_cases h1 : a ≥ l
  · rw [if_pos h1]; congr 1; simp [h1]
  · rw [if_neg h1]; congr 1; symm; simp; intro h2; omega
theorem may_within (a l h : Int) : impl_within.f a l h = some (decide (l ≤ a ∧ a ≤ h)) := by
  unfold impl_within.f
  by_cases h1 : a ≥ l
  · rw [if_pos h1]; congr 1; simp [h1]
  · rw [if_neg h1]; congr 1; symm; simp; intro h2; omega
theorem may_share (a b : Int) : ∃ r, spec_l26Share.f a b = some r ∧ impl_mayShare.f a b = some r := by
  unfold spec_l26Share.f impl_mayShare.f
  split
  · exact ⟨_, rfl, rfl⟩
  · split <;> (try split) <;> (try split) <;> exact ⟨_, rfl, rfl⟩
theorem FnExactMayShare : laws_FnExactMayShare.Pure := by
  intro a b _ _
  obtain ⟨r, h1, h2⟩ := may_share a b
  unfold laws_FnExactMayShare.f spec_MayShare.f impl_MayShare.f impl_isMaterial.f
  rw [may_in, may_in, may_within, may_within, h1, h2]
  by_cases c1 : (1 ≤ a ∧ a ≤ 4) <;> by_cases c2 : (1 ≤ b ∧ b ≤ 4) <;> simp [c1, c2]

end Go.Proofs.Ytdhndojmekcjhaa.Pure
