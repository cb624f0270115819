/- A plain lemma on the laws' own function szBlock. -/
import Derived.Test.YtdphbanfheejoaaXB12
import Derived.Test.YtdphbanfheejoaaXBQ
import Derived.Test.YtdphbanfheejoaaEv
namespace Go.Proofs.Ytdphbanfheejoaa.SB
open Go.RowKit Go.Proofs.YtdphbanfheejoaaW.PrintWords Go.Proofs.Ytdphbanfheejoaa.XB Go.Proofs.Ytdphbanfheejoaa.EvK
set_option linter.unusedVariables false
set_option linter.unusedSimpArgs false
theorem szBlock_val (x : S65) (left : Int) (h0 : 0 ≤ left) (h1 : left ≤ 1048576) (hq : Q65 x) : ∃ t, laws_szBlock.f x.f0 x.f1 x.f2 left = some t ∧ t ≤ left ∧ (0 ≤ t → (x.f0.size ≤ 1048576) ∧ (x.f1.size ≤ 1048576) ∧ (x.f2.size ≤ 1048576)) := by
  unfold Q65 maxLen at hq
  unfold laws_szBlock.f
  repeat' split
  all_goals refine ⟨_, rfl, ?_, ?_⟩
  all_goals (simp only [wrap64] at *; omega)
end Go.Proofs.Ytdphbanfheejoaa.SB
