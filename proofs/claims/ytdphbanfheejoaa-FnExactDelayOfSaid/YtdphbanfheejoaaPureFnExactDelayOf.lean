/- The law FnExactDelayOf: for every pipe and flow the program's DelayOf and the reference's agree. No condition. -/
import Derived.Test.YtdphbanfheejoaaAFnExactDelayOf
import Derived.Test.YtdphbanfheejoaaPPipes
import Derived.Test.YtdphbanfheejoaaSBszPipe
namespace Go.Proofs.Ytdphbanfheejoaa.PureFnExactDelayOf
open Go.RowKit Go.Proofs.YtdphbanfheejoaaW.PrintWords Go.Proofs.YtdphbanfheejoaaW.PrintMore Go.Proofs.Ytdphbanfheejoaa.XB Go.Proofs.Ytdphbanfheejoaa.EvK Go.Proofs.Ytdphbanfheejoaa.PBasics Go.Proofs.Ytdphbanfheejoaa.PPipes Go.Proofs.Ytdphbanfheejoaa.SB
set_option linter.unusedVariables false
set_option linter.unusedSimpArgs false

def ab (q : Int) : Int := mx q (wrap64 (-q))
theorem abs_eq (q : Int) : impl_abs.f q = some (ab q) := rfl
theorem abs2_eq (q : Int) : spec_l03Abs.f q = some (ab q) := by
  unfold spec_l03Abs.f spec_l00Max.f ab mx
  by_cases h : q > wrap64 (-q)
  · rw [if_pos h, if_neg (show ¬ q < wrap64 (-q) by omega)]; rfl
  · rw [if_neg h]
    by_cases h2 : q < wrap64 (-q)
    · rw [if_pos h2]; rfl
    · rw [if_neg h2, show wrap64 (-q) = q by omega]; rfl
theorem ab_ne {q : Int} (h1 : inR q (-100000) 100000 = true) (h : q ≠ 0) : ab q ≠ 0 := by
  rw [inR_iff] at h1
  unfold ab mx
  rw [w64 (by omega) (by omega)]
  split <;> omega
def dly (l d q : Int) : Int := wrap64 (Int.tdiv (wrap64 ((wrap64 (waterOf l d + ab q)) - 1)) (ab q))
def ans (b : Bool) (l d q : Int) : Int × Int := if b = true then (if inR q (-100000) 100000 = true then (if q = 0 then (0, 6) else (dly l d q, 0)) else (0, 2)) else (0, 1)

theorem pure : laws_FnExactDelayOf.Pure := by
  intro x q hq _
  apply EvP.rounds
  unfold laws_FnExactDelayOf.f
  obtain ⟨t, ht, _, hs⟩ := szPipe_val x 1048576 (by omega) (by omega) hq
  simp only [ht, Option.bind_some]
  by_cases hn : t < 0
  · simp only [if_pos hn]
    exact EvP.now rfl
  simp only [if_neg hn, laws_toPipe.f, Option.bind_some]
  have h1 := hs (by omega)
  have es : Ev (fun k => spec_DelayOf.f k x.f0 x.f1 x.f2 x.f3 x.f4 x.f5 q) (ans (pipeOk x.f0 x.f1 x.f2 x.f3 x.f4 x.f5) x.f3 x.f4 q) := by
    unfold spec_DelayOf.f ans spec_l03Ask.f spec_l03Flow.f
    simp only [in_eq, Option.bind_some, Option.bind_assoc]
    refine Ev.bind (l03Ok_ev _ _ _ _ _ _ h1) ?_
    cases hp : pipeOk x.f0 x.f1 x.f2 x.f3 x.f4 x.f5 with
    | false => exact Ev.now _
    | true =>
      simp only [if_true]
      cases hf : inR q (-100000) 100000 with
      | false => exact Ev.now _
      | true =>
        simp only [if_true, Option.bind_some]
        by_cases h0 : q = 0
        · simp only [if_pos h0]; exact Ev.now _
        · simp only [if_neg h0, spec_l03Delay.f, l03Water_eq hp, abs2_eq, Option.bind_some, if_neg (ab_ne hf h0)]; exact Ev.now _
  have ei : Ev (fun k => impl_DelayOf.f k x.f0 x.f1 x.f2 x.f3 x.f4 x.f5 q) (ans (pipeOk x.f0 x.f1 x.f2 x.f3 x.f4 x.f5) x.f3 x.f4 q) := by
    unfold impl_DelayOf.f ans impl_Pipe_code.f impl_flowOk.f impl_allWithin.f
    simp only [within_eq, Option.bind_some, Option.bind_assoc, List.all_nil, if_true]
    refine Ev.bind (validPipe_ev _ _ _ _ _ _ h1) ?_
    cases hp : pipeOk x.f0 x.f1 x.f2 x.f3 x.f4 x.f5 with
    | false => exact Ev.now _
    | true =>
      simp only [if_true]
      cases hf : inR q (-100000) 100000 with
      | false => exact Ev.now _
      | true =>
        simp only [if_true, Option.bind_some]
        by_cases h0 : q = 0
        · simp only [if_pos h0]; exact Ev.now _
        · simp only [if_neg h0, impl_Pipe_delay.f, water_eq hp, abs_eq, impl_divUp.f, Option.bind_some, if_neg (ab_ne hf h0)]; exact Ev.now _
  refine EvP.bind es (EvP.bind ei ?_)
  simp only [if_true]
  exact EvP.now rfl
end Go.Proofs.Ytdphbanfheejoaa.PureFnExactDelayOf
