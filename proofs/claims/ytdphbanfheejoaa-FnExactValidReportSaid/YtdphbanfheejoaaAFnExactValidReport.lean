/- The pure statement of the law FnExactValidReport: numbers and lists alone. -/
import Derived.Test.YtdphbanfheejoaaXA12
import Derived.Test.YtdphbanfheejoaaXAQ
namespace Go.Proofs.Ytdphbanfheejoaa.XA
open Go.RowKit Go.Proofs.YtdphbanfheejoaaW.PrintWords
def laws_FnExactValidReport.Pure : Prop := ∀ (a0 : List ByteArray), ((a0.length ≤ maxLen ∧ ∀ y2 ∈ a0, y2.size ≤ maxLen)) → ∃ k, laws_FnExactValidReport.f k a0 = some true
end Go.Proofs.Ytdphbanfheejoaa.XA
