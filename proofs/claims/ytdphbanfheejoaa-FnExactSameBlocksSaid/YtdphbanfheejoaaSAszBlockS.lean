/- A plain lemma on the laws' own function szBlockS. -/
import Derived.Test.YtdphbanfheejoaaXA7
import Derived.Test.YtdphbanfheejoaaXAQ
import Derived.Test.YtdphbanfheejoaaEv
import Derived.Test.YtdphbanfheejoaaSAszBlock
namespace Go.Proofs.Ytdphbanfheejoaa.SA
open Go.RowKit Go.Proofs.YtdphbanfheejoaaW.PrintWords Go.Proofs.Ytdphbanfheejoaa.XA Go.Proofs.Ytdphbanfheejoaa.EvK
set_option linter.unusedVariables false
set_option linter.unusedSimpArgs false
theorem szBlockS_ev (l : List (S65)) (left : Int) (h0 : 0 ≤ left) (h1 : left ≤ 1048576) (hq : (l.length ≤ maxLen ∧ ∀ y1 ∈ l, Q65 y1)) : EvP (fun k => laws_szBlockS.f k l left) (fun t => t ≤ left ∧ (0 ≤ t → l.length ≤ 1048576 ∧ ∀ x ∈ l, (x.f0.size ≤ 1048576) ∧ (x.f1.size ≤ 1048576) ∧ (x.f2.size ≤ 1048576))) := by
  obtain ⟨hl, hq⟩ := hq
  unfold maxLen at hl
  unfold laws_szBlockS.f
  rw [w64 (by omega) (by omega)]
  by_cases hc : left - (l.length : Int) < 0
  · simp only [if_pos hc]
    exact EvP.now ⟨by omega, by omega⟩
  simp only [if_neg hc]
  refine for_evp (L := fun k (s : Int) i => laws_szBlockS.l0 k l s i) l.length (fun i s => 0 ≤ s ∧ s ≤ left - (l.length : Int) ∧ ∀ x ∈ l.take i, (x.f0.size ≤ 1048576) ∧ (x.f1.size ≤ 1048576) ∧ (x.f2.size ≤ 1048576)) ?_ ?_ _ ⟨by omega, by omega, by simp⟩
  · rintro i s hi ⟨hs0, hs1, hs⟩ K
    have e : rd_T65 l (i : Int) = l[i] := getD_at l z65 i hi
    refine EvP.step (fun k => laws_szBlockS.l0.eq_2 _ _ _ k) ?_
    obtain ⟨t, ht, ht1, ht2⟩ := szBlock_val l[i] s hs0 (by omega) (hq _ (List.getElem_mem hi))
    simp only [if_pos (show (i : Int) < (l.length : Int) by omega), if_pos (show (0 : Int) ≤ (i : Int) by omega), e, ht, Option.bind_some, w64 (show -9223372036854775808 ≤ (i : Int) + 1 by omega) (by omega)]
    by_cases hn : t < 0
    · simp only [if_pos hn]
      exact EvP.now ⟨by omega, by omega⟩
    · simp only [if_neg hn]
      exact K _ ⟨by omega, by omega, take_all hi hs (ht2 (by omega))⟩
  · rintro s ⟨hs0, hs1, hs⟩
    refine EvP.step (fun k => laws_szBlockS.l0.eq_2 _ _ _ k) ?_
    simp only [if_neg (show ¬ (l.length : Int) < (l.length : Int) by omega)]
    exact EvP.now ⟨by omega, fun _ => ⟨by omega, by simpa using hs⟩⟩
end Go.Proofs.Ytdphbanfheejoaa.SA
