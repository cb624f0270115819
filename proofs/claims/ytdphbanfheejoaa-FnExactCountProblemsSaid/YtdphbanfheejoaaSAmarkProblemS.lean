/- A plain lemma on the laws' own function markProblemS. -/
import Derived.Test.YtdphbanfheejoaaXA5
import Derived.Test.YtdphbanfheejoaaXAQ
import Derived.Test.YtdphbanfheejoaaEv
import Derived.Test.YtdphbanfheejoaaSAmarkText
namespace Go.Proofs.Ytdphbanfheejoaa.SA
open Go.RowKit Go.Proofs.YtdphbanfheejoaaW.PrintWords Go.Proofs.Ytdphbanfheejoaa.XA Go.Proofs.Ytdphbanfheejoaa.EvK
set_option linter.unusedVariables false
set_option linter.unusedSimpArgs false
theorem markProblemS_ev (l : List (S28)) (c : Int) (h0 : 0 ≤ c) (h1 : c + 3 * (l.length : Int) ≤ 4611686018427387904) :
    ∃ y : List (S28), Ev (fun k => laws_markProblemS.f k l c) (c + 3 * (l.length : Int), y) ∧ y.length = l.length := by
  obtain ⟨T, hT⟩ : ∃ T : Int → ByteArray, ∀ x : Int, 0 ≤ x → x ≤ 4611686018427387904 → Ev (fun k => laws_markText.f k x) (T x) := ⟨fun x => if h : 0 ≤ x ∧ x ≤ 4611686018427387904 then Classical.choose (markText_ev x h.1 h.2) else ByteArray.empty, fun x h h' => by simp only [h, h', and_self, dif_pos]; exact Classical.choose_spec (markText_ev x h h')⟩
  let E : Nat → S28 := fun j => ⟨c + 3 * (j : Int), T (c + 3 * (j : Int) + 1), T (c + 3 * (j : Int) + 1 + 1)⟩
  have hset : ∀ (i : Nat) (h : i < l.length), ((List.range i).map E ++ l.drop i).set i (E i) = (List.range (i + 1)).map E ++ l.drop (i + 1) := fun i h => set_done E l i h
  have hlen : ∀ (i : Nat), i ≤ l.length → ((List.range i).map E ++ l.drop i).length = l.length := by intro i h; simp; omega
  refine ⟨(List.range l.length).map E, EvP.eq ?_, by simp⟩
  · unfold laws_markProblemS.f
    refine for_evp (L := fun k (s : List (S28) × Int) i => laws_markProblemS.l0 k s.1 s.2 i) l.length (fun i s => s = ((List.range i).map E ++ l.drop i, c + 3 * (i : Int))) ?_ ?_ (l, c) (by simp)
    · rintro i s hi rfl K
      refine EvP.step (fun k => laws_markProblemS.l0.eq_2 _ _ _ k) ?_
      simp only [hlen i (by omega), if_pos (show (i : Int) < (l.length : Int) by omega), if_pos (show (0 : Int) ≤ (i : Int) by omega), Option.bind_some, w64 (show -9223372036854775808 ≤ (i : Int) + 1 by omega) (by omega), w64 (show -9223372036854775808 ≤ c + 3 * (i : Int) + 1 by omega) (by omega), w64 (show -9223372036854775808 ≤ c + 3 * (i : Int) + 1 + 1 by omega) (by omega), w64 (show -9223372036854775808 ≤ c + 3 * (i : Int) + 1 + 1 + 1 by omega) (by omega), Int.toNat_natCast]
      refine EvP.bind (hT (c + 3 * (i : Int) + 1) (by omega) (by omega)) ?_
      refine EvP.bind (hT (c + 3 * (i : Int) + 1 + 1) (by omega) (by omega)) ?_
      refine K (_, _) ?_
      rw [← hset i hi, Prod.mk.injEq]
      refine ⟨?_, by push_cast; omega⟩
      have g1 := hlen i (by omega)
      generalize (List.range i).map E ++ l.drop i = L at g1
      have g2 : i < L.length := by omega
      first | rfl | (simp [rd_T28, E, getD_set_self, g2])
    · rintro s rfl
      refine EvP.step (fun k => laws_markProblemS.l0.eq_2 _ _ _ k) ?_
      simp only [hlen l.length (Nat.le_refl _), if_neg (show ¬ (l.length : Int) < (l.length : Int) by omega)]
      exact EvP.now (by simp)
end Go.Proofs.Ytdphbanfheejoaa.SA
