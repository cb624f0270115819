/- The law FnExactProblemName: for every kind the program's ProblemName and the reference's agree. No condition. -/
import Derived.Test.YtdphbanfheejoaaAFnExactProblemName
import Derived.Test.YtdphbanfheejoaaPBasics
namespace Go.Proofs.Ytdphbanfheejoaa.PureFnExactProblemName
open Go.RowKit Go.Proofs.YtdphbanfheejoaaW.PrintWords Go.Proofs.Ytdphbanfheejoaa.XB Go.Proofs.Ytdphbanfheejoaa.EvK Go.Proofs.Ytdphbanfheejoaa.PBasics
set_option linter.unusedVariables false
set_option linter.unusedSimpArgs false

theorem pure : laws_FnExactProblemName.Pure := by
  intro a0 _
  unfold laws_FnExactProblemName.f spec_ProblemName.f spec_l31Kind.f spec_l31Names.f
  simp only [in_eq, Option.bind_some]
  by_cases h : 1 ≤ a0 ∧ a0 ≤ 6
  · obtain rfl | rfl | rfl | rfl | rfl | rfl : a0 = 1 ∨ a0 = 2 ∨ a0 = 3 ∨ a0 = 4 ∨ a0 = 5 ∨ a0 = 6 := by omega
    all_goals simp [inR, rdOf, impl_ProblemName.f]
  · have e : inR a0 1 6 = false := by
      unfold inR
      rw [Bool.and_eq_false_iff, decide_eq_false_iff_not, decide_eq_false_iff_not]
      omega
    simp only [e, Bool.false_eq_true, if_false, Option.bind_some, impl_ProblemName.f, if_neg (show ¬ a0 = 1 by omega), if_neg (show ¬ a0 = 2 by omega), if_neg (show ¬ a0 = 3 by omega), if_neg (show ¬ a0 = 4 by omega), if_neg (show ¬ a0 = 5 by omega), if_neg (show ¬ a0 = 6 by omega), if_true]
end Go.Proofs.Ytdphbanfheejoaa.PureFnExactProblemName
