/- The law FnExactProblemText: for every problem the program's ProblemText and the reference's agree. No condition. -/
import Derived.Test.YtdphbanfheejoaaAFnExactProblemText
import Derived.Test.YtdphbanfheejoaaPBasics
import Derived.Test.YtdphbanfheejoaaSBszProblem
namespace Go.Proofs.Ytdphbanfheejoaa.PureFnExactProblemText
open Go.RowKit Go.Proofs.YtdphbanfheejoaaW.PrintWords Go.Proofs.Ytdphbanfheejoaa.XB Go.Proofs.Ytdphbanfheejoaa.EvK Go.Proofs.Ytdphbanfheejoaa.PBasics Go.Proofs.Ytdphbanfheejoaa.SB
set_option linter.unusedVariables false
set_option linter.unusedSimpArgs false

theorem pure : laws_FnExactProblemText.Pure := by
  intro x hq
  unfold laws_FnExactProblemText.f
  obtain ⟨t, ht, _, hs⟩ := szProblem_val x 1048576 (by omega) (by omega) hq
  rw [ht]
  simp only [Option.bind_some]
  by_cases hn : t < 0
  · rw [if_pos hn]
  rw [if_neg hn]
  obtain ⟨h1, h2⟩ := hs (by omega)
  simp only [laws_toProblem.f, Option.bind_some]
  have hsm : x.f1.size + x.f2.size ≤ 9223372036854775000 := by omega
  unfold spec_ProblemText.f impl_ProblemText.f spec_l31Kind.f spec_l31Names.f
  rw [in_eq]
  simp only [Option.bind_some]
  by_cases h : 1 ≤ x.f0 ∧ x.f0 ≤ 6
  · have hi : inR x.f0 1 6 = true := by unfold inR; simp only [h.1, h.2, decide_true, Bool.and_self]
    obtain ⟨n, hn1, hn2, hn3, hle⟩ : ∃ n : ByteArray, impl_ProblemName.f x.f0 = some n ∧ rdOf ByteArray.empty [(⟨#[]⟩ : ByteArray), (⟨#[104, 101, 97, 100]⟩ : ByteArray), (⟨#[98, 111, 105, 108]⟩ : ByteArray), (⟨#[99, 111, 108, 100]⟩ : ByteArray), (⟨#[104, 101, 97, 116]⟩ : ByteArray), (⟨#[117, 110, 105, 116]⟩ : ByteArray), (⟨#[99, 117, 116]⟩ : ByteArray)] x.f0 = n ∧ n.data.toList ≠ [] ∧ n.size ≤ 4 := by
      obtain h | h | h | h | h | h : x.f0 = 1 ∨ x.f0 = 2 ∨ x.f0 = 3 ∨ x.f0 = 4 ∨ x.f0 = 5 ∨ x.f0 = 6 := by omega
      all_goals (rw [h]; exact ⟨_, rfl, rfl, by simp, by decide⟩)
    have hsz : ∀ a b : ByteArray, (a ++ b).size = a.size + b.size := fun a b => ByteArray.size_append
    have h32 : (⟨#[32]⟩ : ByteArray).size = 1 := rfl
    have h7 : ([(⟨#[]⟩ : ByteArray), (⟨#[104, 101, 97, 100]⟩ : ByteArray), (⟨#[98, 111, 105, 108]⟩ : ByteArray), (⟨#[99, 111, 108, 100]⟩ : ByteArray), (⟨#[104, 101, 97, 116]⟩ : ByteArray), (⟨#[117, 110, 105, 116]⟩ : ByteArray), (⟨#[99, 117, 116]⟩ : ByteArray)] : List ByteArray).length = 7 := rfl
    simp only [hi, hn1, hn2, h7, Option.bind_some, toList_eq, if_neg hn3, hsz, h32, if_pos (show (0 : Int) ≤ x.f0 by omega), if_pos (show x.f0 < ((7 : Nat) : Int) by omega), if_pos (show n.size + 1 ≤ 9223372036854775807 by omega), if_pos (show n.size + 1 + x.f1.size ≤ 9223372036854775807 by omega), if_pos (show n.size + 1 + x.f1.size + 1 ≤ 9223372036854775807 by omega), if_pos (show n.size + 1 + x.f1.size + 1 + x.f2.size ≤ 9223372036854775807 by omega), if_true]
  · have hi : inR x.f0 1 6 = false := by
      unfold inR
      by_cases h1 : 1 ≤ x.f0
      · rw [decide_eq_false (show ¬ x.f0 ≤ 6 by omega), Bool.and_false]
      · rw [decide_eq_false h1, Bool.false_and]
    have e : impl_ProblemName.f x.f0 = some ⟨#[]⟩ := by
      simp only [impl_ProblemName.f, if_neg (show ¬ x.f0 = 1 by omega), if_neg (show ¬ x.f0 = 2 by omega), if_neg (show ¬ x.f0 = 3 by omega), if_neg (show ¬ x.f0 = 4 by omega), if_neg (show ¬ x.f0 = 5 by omega), if_neg (show ¬ x.f0 = 6 by omega)]
    rw [e, hi, if_neg Bool.false_ne_true]
    simp only [Option.bind_some, toList_eq, if_true]
end Go.Proofs.Ytdphbanfheejoaa.PureFnExactProblemText
