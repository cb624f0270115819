/- The law FnExactValidBlock: for every block the program's ValidBlock and the reference's agree. No condition. -/
import Derived.Test.YtdphbanfheejoaaAFnExactValidBlock
import Derived.Test.YtdphbanfheejoaaPBlocks
import Derived.Test.YtdphbanfheejoaaSBszBlock
namespace Go.Proofs.Ytdphbanfheejoaa.PureFnExactValidBlock
open Go.RowKit Go.Proofs.YtdphbanfheejoaaW.PrintWords Go.Proofs.Ytdphbanfheejoaa.XB Go.Proofs.Ytdphbanfheejoaa.EvK Go.Proofs.Ytdphbanfheejoaa.PBlocks Go.Proofs.Ytdphbanfheejoaa.SB
set_option linter.unusedVariables false
set_option linter.unusedSimpArgs false

theorem pure : laws_FnExactValidBlock.Pure := by
  intro x hq
  apply EvP.rounds
  unfold laws_FnExactValidBlock.f
  obtain ⟨t, ht, _, hs⟩ := szBlock_val x 1048576 (by omega) (by omega) hq
  simp only [ht, Option.bind_some]
  by_cases hn : t < 0
  · simp only [if_pos hn]
    exact EvP.now rfl
  simp only [if_neg hn, laws_toBlock.f, Option.bind_some]
  obtain ⟨h1, h2, h3⟩ := hs (by omega)
  refine EvP.bind (a := blockOk x.f0 x.f1 x.f2) (Ev.bind (oneBlock_ev _ _ _ h1 h2 h3) (Ev.now _)) (EvP.bind (validBlock_ev _ _ _ h1 h2 h3) ?_)
  simp only [bne_self_eq_false, Bool.false_eq_true, if_false]
  exact EvP.now rfl
end Go.Proofs.Ytdphbanfheejoaa.PureFnExactValidBlock
