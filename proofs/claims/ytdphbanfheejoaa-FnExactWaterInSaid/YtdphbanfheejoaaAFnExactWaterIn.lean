/- The pure statement of the law FnExactWaterIn: numbers and lists alone. -/
import Derived.Test.YtdphbanfheejoaaXB9
import Derived.Test.YtdphbanfheejoaaXBQ
namespace Go.Proofs.Ytdphbanfheejoaa.XB
open Go.RowKit Go.Proofs.YtdphbanfheejoaaW.PrintWords
def laws_FnExactWaterIn.Pure : Prop := ∀ (a0 : S43), (Q43 a0) → ∃ k, laws_FnExactWaterIn.f k a0.f0 a0.f1 a0.f2 a0.f3 a0.f4 a0.f5 = some true
end Go.Proofs.Ytdphbanfheejoaa.XB
