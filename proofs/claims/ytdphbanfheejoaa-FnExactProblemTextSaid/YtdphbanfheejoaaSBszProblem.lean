/- A plain lemma on the laws' own function szProblem. -/
import Derived.Test.YtdphbanfheejoaaXB30
import Derived.Test.YtdphbanfheejoaaXBQ
import Derived.Test.YtdphbanfheejoaaEv
namespace Go.Proofs.Ytdphbanfheejoaa.SB
open Go.RowKit Go.Proofs.YtdphbanfheejoaaW.PrintWords Go.Proofs.Ytdphbanfheejoaa.XB Go.Proofs.Ytdphbanfheejoaa.EvK
set_option linter.unusedVariables false
set_option linter.unusedSimpArgs false
theorem szProblem_val (x : S25) (left : Int) (h0 : 0 ≤ left) (h1 : left ≤ 1048576) (hq : Q25 x) : ∃ t, laws_szProblem.f x.f0 x.f1 x.f2 left = some t ∧ t ≤ left ∧ (0 ≤ t → (x.f1.size ≤ 1048576) ∧ (x.f2.size ≤ 1048576)) := by
  unfold Q25 maxLen at hq
  unfold laws_szProblem.f
  repeat' split
  all_goals refine ⟨_, rfl, ?_, ?_⟩
  all_goals (simp only [wrap64] at *; omega)
end Go.Proofs.Ytdphbanfheejoaa.SB
