/- A plain lemma on the laws' own function toBlockS. -/
import Derived.Test.YtdphbanfheejoaaXA7
import Derived.Test.YtdphbanfheejoaaXAQ
import Derived.Test.YtdphbanfheejoaaEv
namespace Go.Proofs.Ytdphbanfheejoaa.SA
open Go.RowKit Go.Proofs.YtdphbanfheejoaaW.PrintWords Go.Proofs.Ytdphbanfheejoaa.XA Go.Proofs.Ytdphbanfheejoaa.EvK
set_option linter.unusedVariables false
set_option linter.unusedSimpArgs false
def toBlockS_el (x : S65) : S68 := (⟨x.f0, x.f1, x.f2⟩ : S68)
theorem toBlockS_ev (l : List (S65)) (hl : l.length ≤ 1048576) : Ev (fun k => laws_toBlockS.f k l) (l.map toBlockS_el) := by
  apply EvP.eq
  unfold laws_toBlockS.f
  simp only [if_pos (show (0 : Int) ≤ (l.length : Int) by omega), Int.toNat_natCast, if_pos (show l.length ≤ 5864062014805 by omega)]
  refine for_evp (L := fun k (s : List (S68)) i => laws_toBlockS.l0 k l s i) l.length (fun i s => s = (l.take i).map toBlockS_el ++ List.replicate (l.length - i) z68) ?_ ?_ (List.replicate l.length z68) (by simp)
  · rintro i s hi rfl K
    have e : rd_T65 l (i : Int) = l[i] := getD_at l z65 i hi
    have hlen := done_len toBlockS_el l z68 i (by omega)
    refine EvP.step (fun k => laws_toBlockS.l0.eq_2 _ _ _ k) ?_
    simp only [if_pos (show (i : Int) < (l.length : Int) by omega), if_pos (show (0 : Int) ≤ (i : Int) by omega), e, laws_toBlock.f, Option.bind_some, hlen, w64 (show -9223372036854775808 ≤ (i : Int) + 1 by omega) (by omega), Int.toNat_natCast]
    refine K _ ?_
    show List.set _ i (toBlockS_el l[i]) = _
    exact map_done toBlockS_el l _ i hi
  · rintro s rfl
    refine EvP.step (fun k => laws_toBlockS.l0.eq_2 _ _ _ k) ?_
    simp only [if_neg (show ¬ (l.length : Int) < (l.length : Int) by omega)]
    exact EvP.now (by simp)
end Go.Proofs.Ytdphbanfheejoaa.SA
