/- The pure statement of the law FnExactProblemText: numbers and lists alone. -/
import Derived.Test.YtdphbanfheejoaaXB32
import Derived.Test.YtdphbanfheejoaaXBQ
namespace Go.Proofs.Ytdphbanfheejoaa.XB
open Go.RowKit Go.Proofs.YtdphbanfheejoaaW.PrintWords
def laws_FnExactProblemText.Pure : Prop := ∀ (a0 : S25), (Q25 a0) → laws_FnExactProblemText.f a0.f0 a0.f1 a0.f2 = some true
end Go.Proofs.Ytdphbanfheejoaa.XB
