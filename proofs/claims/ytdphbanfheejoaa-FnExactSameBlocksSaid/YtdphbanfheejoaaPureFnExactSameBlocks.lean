/- The law FnExactSameBlocks: for every two lists of blocks the program's SameBlocks and the reference's agree, and the lists stay. No condition. -/
import Derived.Test.YtdphbanfheejoaaAFnExactSameBlocks
import Derived.Test.YtdphbanfheejoaaSAszBlockS
import Derived.Test.YtdphbanfheejoaaSAtoBlockS
import Derived.Test.YtdphbanfheejoaaSAeqBlockS
namespace Go.Proofs.Ytdphbanfheejoaa.PureFnExactSameBlocks
open Go.RowKit Go.Proofs.YtdphbanfheejoaaW.PrintWords Go.Proofs.Ytdphbanfheejoaa.XA Go.Proofs.Ytdphbanfheejoaa.EvK Go.Proofs.Ytdphbanfheejoaa.SA
set_option linter.unusedVariables false
set_option linter.unusedSimpArgs false

def eqAt (a b : List S68) (i : Nat) : Bool := !(!((((rd_T68 a i).f0).toList) == (((rd_T68 b i).f0).toList)) || (!((((rd_T68 a i).f1).toList) == (((rd_T68 b i).f1).toList)) || (!((((rd_T68 a i).f2).toList) == (((rd_T68 b i).f2).toList)))))
def same (a b : List S68) : Bool := decide ((a.length : Int) = (b.length : Int)) && (List.range a.length).all (eqAt a b)

theorem spec_ev (a b : List S68) (h : a.length ≤ 1048576) : Ev (fun k => spec_l29Same.f k a b) (same a b) := by
  unfold spec_l29Same.f same
  by_cases hl : (a.length : Int) = (b.length : Int)
  · simp only [if_pos hl, hl, decide_true, Bool.true_and]
    have hr : (List.range a.length).length = a.length := List.length_range
    have := all_ev (L := fun k i => spec_l29Same.l0 k a b i) (List.range a.length) (eqAt a b) true ?_ ?_ ?_
    · simpa using this
    · intro i hi hp P K
      rw [hr] at hi
      simp only [List.getElem_range, eqAt, Bool.not_eq_true'] at hp
      refine EvP.step (fun k => spec_l29Same.l0.eq_2 _ _ _ k) ?_
      simp only [if_pos (show (i : Int) < (a.length : Int) by omega), if_pos (show (i : Int) < (b.length : Int) by omega), if_pos (show (0 : Int) ≤ (i : Int) by omega), hp, Bool.false_eq_true, if_false, w64 (show -9223372036854775808 ≤ (i : Int) + 1 by omega) (by omega)]
      exact K
    · intro i hi hp
      rw [hr] at hi
      simp only [List.getElem_range, eqAt, Bool.not_eq_false'] at hp
      refine Ev.step (fun k => spec_l29Same.l0.eq_2 _ _ _ k) ?_
      simp only [if_pos (show (i : Int) < (a.length : Int) by omega), if_pos (show (i : Int) < (b.length : Int) by omega), if_pos (show (0 : Int) ≤ (i : Int) by omega), hp, if_true]
      exact Ev.now _
    · rw [hr]
      refine Ev.step (fun k => spec_l29Same.l0.eq_2 _ _ _ k) ?_
      simp only [if_neg (show ¬ (a.length : Int) < (a.length : Int) by omega)]
      exact Ev.now _
  · simp only [if_neg hl, hl, decide_false, Bool.false_and]
    exact Ev.now _

theorem impl_ev (a b : List S68) (h : a.length ≤ 1048576) : Ev (fun k => slices_Equal_BlockS.f k a b) (same a b) := by
  unfold slices_Equal_BlockS.f same
  by_cases hl : (a.length : Int) = (b.length : Int)
  · simp only [if_pos hl, hl, decide_true, Bool.true_and]
    have hr : (List.range a.length).length = a.length := List.length_range
    have := all_ev (L := fun k i => slices_Equal_BlockS.l0 k a b (a.length : Int) i) (List.range a.length) (eqAt a b) true ?_ ?_ ?_
    · simpa [hl] using this
    · intro i hi hp P K
      rw [hr] at hi
      simp only [List.getElem_range, eqAt, Bool.not_eq_true'] at hp
      refine EvP.step (fun k => slices_Equal_BlockS.l0.eq_2 _ _ _ _ k) ?_
      simp only [if_pos (show (i : Int) < (a.length : Int) by omega), if_pos (show (i : Int) < (b.length : Int) by omega), if_pos (show (0 : Int) ≤ (i : Int) by omega), hp, Bool.false_eq_true, if_false, w64 (show -9223372036854775808 ≤ (i : Int) + 1 by omega) (by omega)]
      exact K
    · intro i hi hp
      rw [hr] at hi
      simp only [List.getElem_range, eqAt, Bool.not_eq_false'] at hp
      refine Ev.step (fun k => slices_Equal_BlockS.l0.eq_2 _ _ _ _ k) ?_
      simp only [if_pos (show (i : Int) < (a.length : Int) by omega), if_pos (show (i : Int) < (b.length : Int) by omega), if_pos (show (0 : Int) ≤ (i : Int) by omega), hp, if_true]
      exact Ev.now _
    · rw [hr]
      refine Ev.step (fun k => slices_Equal_BlockS.l0.eq_2 _ _ _ _ k) ?_
      simp only [if_neg (show ¬ (a.length : Int) < (a.length : Int) by omega)]
      exact Ev.now _
  · simp only [if_neg hl, hl, decide_false, Bool.false_and]
    exact Ev.now _

theorem pure : laws_FnExactSameBlocks.Pure := by
  intro a b ha hb
  apply EvP.rounds
  unfold laws_FnExactSameBlocks.f
  refine EvP.bindP (szBlockS_ev a 1048576 (by omega) (by omega) ha) (fun t ⟨ht, hs⟩ => ?_)
  by_cases hn : t < 0
  · simp only [if_pos hn]
    exact EvP.now rfl
  simp only [if_neg hn]
  obtain ⟨ha1, _⟩ := hs (by omega)
  refine EvP.bindP (szBlockS_ev b t (by omega) (by omega) hb) (fun u ⟨_, hs⟩ => ?_)
  by_cases hn : u < 0
  · simp only [if_pos hn]
    exact EvP.now rfl
  simp only [if_neg hn]
  obtain ⟨hb1, _⟩ := hs (by omega)
  have ea : (a.map toBlockS_el).length ≤ 1048576 := by simpa using ha1
  have eb : (b.map toBlockS_el).length ≤ 1048576 := by simpa using hb1
  refine EvP.bind (toBlockS_ev a ha1) (EvP.bind (toBlockS_ev b hb1) ?_)
  refine EvP.bind (Ev.bind (spec_ev _ _ ea) (Ev.now _)) ?_
  refine EvP.bind (toBlockS_ev a ha1) (EvP.bind (toBlockS_ev b hb1) ?_)
  refine EvP.bind (Ev.bind (impl_ev _ _ ea) (Ev.now _)) ?_
  simp only [bne_self_eq_false, Bool.false_eq_true, if_false]
  refine EvP.bind (toBlockS_ev a ha1) (EvP.bind (eqBlockS_ev _ ea) ?_)
  simp only [if_true]
  refine EvP.bind (toBlockS_ev b hb1) (EvP.bind (eqBlockS_ev _ eb) ?_)
  simp only [if_true]
  exact EvP.now rfl

end Go.Proofs.Ytdphbanfheejoaa.PureFnExactSameBlocks
