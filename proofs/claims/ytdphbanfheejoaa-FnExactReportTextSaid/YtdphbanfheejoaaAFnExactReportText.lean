/- The pure statement of the law FnExactReportText: numbers and lists alone. -/
import Derived.Test.YtdphbanfheejoaaXB29
import Derived.Test.YtdphbanfheejoaaXBQ
namespace Go.Proofs.Ytdphbanfheejoaa.XB
open Go.RowKit Go.Proofs.YtdphbanfheejoaaW.PrintWords
def laws_FnExactReportText.Pure : Prop := ∀ (a0 : List ByteArray), ((a0.length ≤ maxLen ∧ ∀ y2 ∈ a0, y2.size ≤ maxLen)) → ∃ k, laws_FnExactReportText.f k a0 = some true
end Go.Proofs.Ytdphbanfheejoaa.XB
