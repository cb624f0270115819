/- The pure statement of the law FnExactValidBlock: numbers and lists alone. -/
import Derived.Test.YtdphbanfheejoaaXB14
import Derived.Test.YtdphbanfheejoaaXBQ
namespace Go.Proofs.Ytdphbanfheejoaa.XB
open Go.RowKit Go.Proofs.YtdphbanfheejoaaW.PrintWords
def laws_FnExactValidBlock.Pure : Prop := ∀ (a0 : S65), (Q65 a0) → ∃ k, laws_FnExactValidBlock.f k a0.f0 a0.f1 a0.f2 = some true
end Go.Proofs.Ytdphbanfheejoaa.XB
