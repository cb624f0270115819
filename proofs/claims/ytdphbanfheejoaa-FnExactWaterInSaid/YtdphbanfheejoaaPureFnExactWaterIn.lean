/- The law FnExactWaterIn: for every pipe the program's WaterIn and the reference's agree. No condition. -/
import Derived.Test.YtdphbanfheejoaaAFnExactWaterIn
import Derived.Test.YtdphbanfheejoaaPPipes
import Derived.Test.YtdphbanfheejoaaSBszPipe
namespace Go.Proofs.Ytdphbanfheejoaa.PureFnExactWaterIn
open Go.RowKit Go.Proofs.YtdphbanfheejoaaW.PrintWords Go.Proofs.Ytdphbanfheejoaa.XB Go.Proofs.Ytdphbanfheejoaa.EvK Go.Proofs.Ytdphbanfheejoaa.PBasics Go.Proofs.Ytdphbanfheejoaa.PPipes Go.Proofs.Ytdphbanfheejoaa.SB
set_option linter.unusedVariables false
set_option linter.unusedSimpArgs false

theorem pure : laws_FnExactWaterIn.Pure := by
  intro x hq
  apply EvP.rounds
  unfold laws_FnExactWaterIn.f
  obtain ⟨t, ht, _, hs⟩ := szPipe_val x 1048576 (by omega) (by omega) hq
  simp only [ht, Option.bind_some]
  by_cases hn : t < 0
  · simp only [if_pos hn]
    exact EvP.now rfl
  simp only [if_neg hn, laws_toPipe.f, Option.bind_some]
  have h1 := hs (by omega)
  have es : Ev (fun k => spec_WaterIn.f k x.f0 x.f1 x.f2 x.f3 x.f4 x.f5) (if pipeOk x.f0 x.f1 x.f2 x.f3 x.f4 x.f5 = true then (waterOf x.f3 x.f4, 0) else (0, 1)) := by
    unfold spec_WaterIn.f
    refine Ev.bind (l03Ok_ev _ _ _ _ _ _ h1) ?_
    cases hp : pipeOk x.f0 x.f1 x.f2 x.f3 x.f4 x.f5 with
    | false => exact Ev.now _
    | true => simp only [if_true, l03Water_eq hp, Option.bind_some]; exact Ev.now _
  have ei : Ev (fun k => impl_WaterIn.f k x.f0 x.f1 x.f2 x.f3 x.f4 x.f5) (if pipeOk x.f0 x.f1 x.f2 x.f3 x.f4 x.f5 = true then (waterOf x.f3 x.f4, 0) else (0, 1)) := by
    unfold impl_WaterIn.f
    refine Ev.bind (validPipe_ev _ _ _ _ _ _ h1) ?_
    cases hp : pipeOk x.f0 x.f1 x.f2 x.f3 x.f4 x.f5 with
    | false => exact Ev.now _
    | true => simp only [if_true, water_eq hp, Option.bind_some]; exact Ev.now _
  refine EvP.bind es (EvP.bind ei ?_)
  simp only [if_true]
  exact EvP.now rfl
end Go.Proofs.Ytdphbanfheejoaa.PureFnExactWaterIn
