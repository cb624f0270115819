/- The pure statement of the law FnExactSameBlocks: numbers and lists alone. -/
import Derived.Test.YtdphbanfheejoaaXA10
import Derived.Test.YtdphbanfheejoaaXAQ
namespace Go.Proofs.Ytdphbanfheejoaa.XA
open Go.RowKit Go.Proofs.YtdphbanfheejoaaW.PrintWords
def laws_FnExactSameBlocks.Pure : Prop := ∀ (a0 : List (S65)), ∀ (a1 : List (S65)), ((a0.length ≤ maxLen ∧ ∀ y2 ∈ a0, Q65 y2)) → ((a1.length ≤ maxLen ∧ ∀ y2 ∈ a1, Q65 y2)) → ∃ k, laws_FnExactSameBlocks.f k a0 a1 = some true
end Go.Proofs.Ytdphbanfheejoaa.XA
