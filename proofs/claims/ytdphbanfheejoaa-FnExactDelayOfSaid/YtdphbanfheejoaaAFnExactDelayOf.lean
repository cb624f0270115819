/- The pure statement of the law FnExactDelayOf: numbers and lists alone. -/
import Derived.Test.YtdphbanfheejoaaXB12
import Derived.Test.YtdphbanfheejoaaXBQ
namespace Go.Proofs.Ytdphbanfheejoaa.XB
open Go.RowKit Go.Proofs.YtdphbanfheejoaaW.PrintWords
def laws_FnExactDelayOf.Pure : Prop := ∀ (a0 : S43), ∀ (a1 : Int), (Q43 a0) → ((Lit.int .i64 a1).wf = true) → ∃ k, laws_FnExactDelayOf.f k a0.f0 a0.f1 a0.f2 a0.f3 a0.f4 a0.f5 a1 = some true
end Go.Proofs.Ytdphbanfheejoaa.XB
