/- Proved: for all arguments StepsIn of the program returns what StepsIn of the reference returns. No condition. -/
import Derived.Test.YthaadpjfimajjaaPFnExactStepsInx1
namespace Go.Proofs.Ythaadpjfimajjaa.Pure
open Go.RowKit Go.Proofs.Ythaadpjfimajjaa.PFnExactStepsIn Go.Proofs.YthaadpjfimajjaaW.PrintWords Go.Proofs.YthaadpjfimajjaaW.PrintLast

theorem sIn (a b c : Int) : spec_l1In.f a b c = some (decide (b ≤ a ∧ a ≤ c)) := by
  unfold spec_l1In.f
  by_cases h : a ≥ b
  · rw [if_pos h]; congr 2; simp; omega
  · rw [if_neg h]; simp; omega
theorem iIn (a b c : Int) : impl_in.f a b c = some (decide (b ≤ a ∧ a ≤ c)) := by
  unfold impl_in.f
  by_cases h : a ≥ b
  · rw [if_pos h]; congr 2; simp; omega
  · rw [if_neg h]; simp; omega

theorem FnExactStepsIn : laws_FnExactStepsIn.Pure := by
  intro a0 a1 _ _
  unfold laws_FnExactStepsIn.f spec_StepsIn.f impl_StepsIn.f spec_l8Hands.f
  simp only [sIn, iIn, Option.bind_some]
  by_cases h : 0 ≤ a0 ∧ a0 ≤ 10
  · by_cases h' : 1 ≤ a1 ∧ a1 ≤ 4
    · simp [h, h']
    · simp [h, h']
  · simp [h]

end Go.Proofs.Ythaadpjfimajjaa.Pure
