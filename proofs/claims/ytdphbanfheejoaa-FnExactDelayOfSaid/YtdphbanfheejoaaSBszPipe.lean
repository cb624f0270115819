/- A plain lemma on the laws' own function szPipe. -/
import Derived.Test.YtdphbanfheejoaaXB1
import Derived.Test.YtdphbanfheejoaaXBQ
import Derived.Test.YtdphbanfheejoaaEv
namespace Go.Proofs.Ytdphbanfheejoaa.SB
open Go.RowKit Go.Proofs.YtdphbanfheejoaaW.PrintWords Go.Proofs.Ytdphbanfheejoaa.XB Go.Proofs.Ytdphbanfheejoaa.EvK
set_option linter.unusedVariables false
set_option linter.unusedSimpArgs false
theorem szPipe_val (x : S43) (left : Int) (h0 : 0 ≤ left) (h1 : left ≤ 1048576) (hq : Q43 x) : ∃ t, laws_szPipe.f x.f0 x.f1 x.f2 x.f3 x.f4 x.f5 left = some t ∧ t ≤ left ∧ (0 ≤ t → (x.f0.size ≤ 1048576)) := by
  unfold Q43 maxLen at hq
  unfold laws_szPipe.f
  repeat' split
  all_goals refine ⟨_, rfl, ?_, ?_⟩
  all_goals (simp only [wrap64] at *; omega)
end Go.Proofs.Ytdphbanfheejoaa.SB
