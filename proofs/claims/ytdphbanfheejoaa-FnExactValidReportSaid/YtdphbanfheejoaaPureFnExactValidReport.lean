/- The law FnExactValidReport: for every list of lines the program's ValidReport and the reference's agree, and the list stays. No condition. -/
import Derived.Test.YtdphbanfheejoaaAFnExactValidReport
import Derived.Test.YtdphbanfheejoaaLines
import Derived.Test.YtdphbanfheejoaaSAszStringS
import Derived.Test.YtdphbanfheejoaaSAtoStringS
import Derived.Test.YtdphbanfheejoaaSAeqStringS
namespace Go.Proofs.Ytdphbanfheejoaa.PureFnExactValidReport
open Go.RowKit Go.Proofs.YtdphbanfheejoaaW.PrintWords Go.Proofs.Ytdphbanfheejoaa.XA Go.Proofs.Ytdphbanfheejoaa.EvK Go.Proofs.Ytdphbanfheejoaa.SA Go.Proofs.Ytdphbanfheejoaa.Lines
set_option linter.unusedVariables false
set_option linter.unusedSimpArgs false

theorem pure : laws_FnExactValidReport.Pure := by
  intro l hq
  apply EvP.rounds
  unfold laws_FnExactValidReport.f
  refine EvP.bindP (szStringS_ev l 1048576 (by omega) (by omega) hq) (fun t ⟨_, hs⟩ => ?_)
  by_cases hn : t < 0
  · simp only [if_pos hn]
    exact EvP.now rfl
  simp only [if_neg hn]
  obtain ⟨hs1, hs2⟩ := hs (by omega)
  have e : l.map toStringS_el = l := List.map_id l
  have hto := toStringS_ev l hs1
  rw [e] at hto
  refine EvP.bind hto (EvP.bind (Ev.bind (spec_rep_ev l hs1 hs2) (Ev.now _)) (EvP.bind hto (EvP.bind (impl_rep_ev l hs1 hs2) ?_)))
  simp only [bne_self_eq_false, Bool.false_eq_true, if_false]
  refine EvP.bind hto (EvP.bind (eqStringS_ev l hs1) ?_)
  simp only [if_true]
  exact EvP.now rfl
end Go.Proofs.Ytdphbanfheejoaa.PureFnExactValidReport
