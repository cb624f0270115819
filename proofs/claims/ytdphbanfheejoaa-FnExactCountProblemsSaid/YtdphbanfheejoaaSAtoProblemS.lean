/- A plain lemma on the laws' own function toProblemS. -/
import Derived.Test.YtdphbanfheejoaaXA3
import Derived.Test.YtdphbanfheejoaaXAQ
import Derived.Test.YtdphbanfheejoaaEv
namespace Go.Proofs.Ytdphbanfheejoaa.SA
open Go.RowKit Go.Proofs.YtdphbanfheejoaaW.PrintWords Go.Proofs.Ytdphbanfheejoaa.XA Go.Proofs.Ytdphbanfheejoaa.EvK
set_option linter.unusedVariables false
set_option linter.unusedSimpArgs false
def toProblemS_el (x : S25) : S28 := (⟨x.f0, x.f1, x.f2⟩ : S28)
theorem toProblemS_ev (l : List (S25)) (hl : l.length ≤ 1048576) : Ev (fun k => laws_toProblemS.f k l) (l.map toProblemS_el) := by
  apply EvP.eq
  unfold laws_toProblemS.f
  simp only [if_pos (show (0 : Int) ≤ (l.length : Int) by omega), Int.toNat_natCast, if_pos (show l.length ≤ 7036874417766 by omega)]
  refine for_evp (L := fun k (s : List (S28)) i => laws_toProblemS.l0 k l s i) l.length (fun i s => s = (l.take i).map toProblemS_el ++ List.replicate (l.length - i) z28) ?_ ?_ (List.replicate l.length z28) (by simp)
  · rintro i s hi rfl K
    have e : rd_T25 l (i : Int) = l[i] := getD_at l z25 i hi
    have hlen := done_len toProblemS_el l z28 i (by omega)
    refine EvP.step (fun k => laws_toProblemS.l0.eq_2 _ _ _ k) ?_
    simp only [if_pos (show (i : Int) < (l.length : Int) by omega), if_pos (show (0 : Int) ≤ (i : Int) by omega), e, laws_toProblem.f, Option.bind_some, hlen, w64 (show -9223372036854775808 ≤ (i : Int) + 1 by omega) (by omega), Int.toNat_natCast]
    refine K _ ?_
    show List.set _ i (toProblemS_el l[i]) = _
    exact map_done toProblemS_el l _ i hi
  · rintro s rfl
    refine EvP.step (fun k => laws_toProblemS.l0.eq_2 _ _ _ k) ?_
    simp only [if_neg (show ¬ (l.length : Int) < (l.length : Int) by omega)]
    exact EvP.now (by simp)
end Go.Proofs.Ytdphbanfheejoaa.SA
