/- The pure statement of the law FnExactProblemName: numbers and lists alone. -/
import Derived.Test.YtdphbanfheejoaaXB30
import Derived.Test.YtdphbanfheejoaaXBQ
namespace Go.Proofs.Ytdphbanfheejoaa.XB
open Go.RowKit Go.Proofs.YtdphbanfheejoaaW.PrintWords
def laws_FnExactProblemName.Pure : Prop := ∀ (a0 : Int), ((Lit.int .i64 a0).wf = true) → laws_FnExactProblemName.f a0 = some true
end Go.Proofs.Ytdphbanfheejoaa.XB
