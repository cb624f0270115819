/- The pure statement of the law FnExactCountProblems: numbers and lists alone. -/
import Derived.Test.YtdphbanfheejoaaXA6
import Derived.Test.YtdphbanfheejoaaXAQ
namespace Go.Proofs.Ytdphbanfheejoaa.XA
open Go.RowKit Go.Proofs.YtdphbanfheejoaaW.PrintWords
def laws_FnExactCountProblems.Pure : Prop := ∀ (a0 : List (S25)), ((a0.length ≤ maxLen ∧ ∀ y2 ∈ a0, Q25 y2)) → ∃ k, laws_FnExactCountProblems.f k a0 = some true
end Go.Proofs.Ytdphbanfheejoaa.XA
