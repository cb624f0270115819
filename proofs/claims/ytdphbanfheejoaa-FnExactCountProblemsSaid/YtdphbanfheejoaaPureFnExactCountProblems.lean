/- The law FnExactCountProblems: for every list of problems, the program's CountProblems and the reference's agree, the list stays, and the result is new memory: both count, in order, the same kinds. No condition. -/
import Derived.Test.YtdphbanfheejoaaAFnExactCountProblems
import Derived.Test.YtdphbanfheejoaaSAszProblemS
import Derived.Test.YtdphbanfheejoaaSAtoProblemS
import Derived.Test.YtdphbanfheejoaaSAeqProblemS
import Derived.Test.YtdphbanfheejoaaSAeqInt64S
import Derived.Test.YtdphbanfheejoaaSAmarkProblemS
import Derived.Test.YtdphbanfheejoaaSAmarkInt64S
namespace Go.Proofs.Ytdphbanfheejoaa.PureFnExactCountProblems
open Go.RowKit Go.Proofs.YtdphbanfheejoaaW.PrintWords Go.Proofs.Ytdphbanfheejoaa.XA Go.Proofs.Ytdphbanfheejoaa.EvK Go.Proofs.Ytdphbanfheejoaa.SA
set_option linter.unusedVariables false

/-- What both count: a number of kind c, and all. -/
def bump (acc : List Int) (c : Int) : List Int := if 1 ≤ c ∧ c ≤ 6 then (acc.set c.toNat (wrap64 (rd acc c + 1))).set 0 (wrap64 (rd acc 0 + 1)) else acc
def cnt (l : List S28) : List Int := l.foldl (fun acc x => bump acc x.f0) (List.replicate 7 0)

theorem bump_len (acc : List Int) (c : Int) : (bump acc c).length = acc.length := by unfold bump; split <;> simp

theorem cnt_snoc (l : List S28) (i : Nat) (h : i < l.length) : (l.take (i + 1)).foldl (fun acc x => bump acc x.f0) (List.replicate 7 0) = bump ((l.take i).foldl (fun acc x => bump acc x.f0) (List.replicate 7 0)) l[i].f0 := by
  rw [List.take_succ_eq_append_getElem h, List.foldl_append]; rfl

theorem fold_len (l : List S28) (a : List Int) : (l.foldl (fun acc x => bump acc x.f0) a).length = a.length := by
  induction l generalizing a with
  | nil => rfl
  | cons x l ih => rw [List.foldl_cons, ih, bump_len]

theorem cnt_len (l : List S28) : (cnt l).length = 7 := by unfold cnt; rw [fold_len]; rfl

theorem rd_set_ne (l : List Int) (i j : Nat) (v : Int) (h : i ≠ j) : rd (l.set i v) (j : Int) = rd l (j : Int) := by
  unfold rd; simp [List.getD_eq_getElem?_getD, List.getElem?_set_ne h]

theorem spec_ev (l : List S28) (hl : l.length ≤ 1048576) : Ev (fun k => spec_CountProblems.f k l) (cnt l) := by
  unfold spec_CountProblems.f
  simp only [if_pos (show 7 ≤ 35184372088832 by omega)]
  refine Exists.elim (for_ev (L := fun k (s : List Int) i => spec_CountProblems.l0 k l s i) (n := l.length) (Post := fun t => t = cnt l)
    (fun i s => s = (l.take i).foldl (fun acc x => bump acc x.f0) (List.replicate 7 0)) ?_ ?_ (List.replicate 7 0) (by simp)) ?_
  rotate_left 2
  · rintro _ ⟨ht, rfl⟩
    exact ht
  · rintro i s hi hs
    have e : rd_T28 l (i : Int) = l[i] := getD_at l z28 i hi
    have hlen : s.length = 7 := by rw [hs, fold_len]; rfl
    left
    refine ⟨bump s l[i].f0, by rw [cnt_snoc l i hi, hs], fun r hr => Ev.step (fun k => spec_CountProblems.l0.eq_2 _ _ _ k) ?_⟩
    simp only [if_pos (show (i : Int) < (l.length : Int) by omega), if_pos (show (0 : Int) ≤ (i : Int) by omega), e, w64 (show -9223372036854775808 ≤ (i : Int) + 1 by omega) (by omega), spec_l31Kind.f, spec_l00In.f]
    by_cases h1 : l[i].f0 ≥ 1
    · by_cases h2 : l[i].f0 ≤ 6
      · obtain ⟨c, hc⟩ : ∃ c : Nat, l[i].f0 = (c : Int) := ⟨l[i].f0.toNat, by omega⟩
        rw [hc] at h1 h2 hr ⊢
        have hne : c ≠ 0 := by omega
        unfold bump at hr
        rw [if_pos ⟨h1, h2⟩] at hr
        simp only [if_pos h1, h2, decide_true, Option.bind_some, if_true, if_pos (show (0 : Int) ≤ (c : Int) by omega), hlen, if_pos (show (c : Int) < ((7 : Nat) : Int) by omega), if_pos (show (0 : Int) < ((7 : Nat) : Int) by omega)]
        simp only [Int.toNat_natCast] at hr ⊢
        rw [show rd (s.set c (wrap64 (rd s (c : Int) + 1))) 0 = rd s 0 from rd_set_ne s c 0 _ hne]
        exact hr
      · unfold bump at hr
        rw [if_neg (by omega)] at hr
        simp only [if_pos h1, h2, decide_false, Option.bind_some, Bool.false_eq_true, if_false]
        exact hr
    · unfold bump at hr
      rw [if_neg (by omega)] at hr
      simp only [if_neg h1, Option.bind_some, Bool.false_eq_true, if_false]
      exact hr
  · rintro s rfl
    refine ⟨_, Ev.step (fun k => spec_CountProblems.l0.eq_2 _ _ _ k) ?_, rfl⟩
    simp only [if_neg (show ¬ (l.length : Int) < (l.length : Int) by omega)]
    exact Ev.some (by rw [List.take_length]; rfl)

theorem impl_ev (l : List S28) (hl : l.length ≤ 1048576) : Ev (fun k => impl_CountProblems.f k l) (cnt l) := by
  unfold impl_CountProblems.f
  simp only [if_pos (show 7 ≤ 35184372088832 by omega)]
  refine Exists.elim (for_ev (L := fun k (s : List Int) i => impl_CountProblems.l0 k s l (l.length : Int) i) (n := l.length) (Post := fun t => t = cnt l)
    (fun i s => s = (l.take i).foldl (fun acc x => bump acc x.f0) (List.replicate 7 0)) ?_ ?_ (List.replicate 7 0) (by simp)) ?_
  rotate_left 2
  · rintro _ ⟨ht, rfl⟩
    exact ht
  · rintro i s hi hs
    have e : rd_T28 l (i : Int) = l[i] := getD_at l z28 i hi
    have hlen : s.length = 7 := by rw [hs, fold_len]; rfl
    left
    refine ⟨bump s l[i].f0, by rw [cnt_snoc l i hi, hs], fun r hr => Ev.step (fun k => impl_CountProblems.l0.eq_2 _ _ _ _ k) ?_⟩
    simp only [if_pos (show (i : Int) < (l.length : Int) by omega), if_pos (show (0 : Int) ≤ (i : Int) by omega), e, w64 (show -9223372036854775808 ≤ (i : Int) + 1 by omega) (by omega), impl_within.f]
    by_cases h1 : l[i].f0 ≥ 1
    · by_cases h2 : l[i].f0 ≤ 6
      · obtain ⟨c, hc⟩ : ∃ c : Nat, l[i].f0 = (c : Int) := ⟨l[i].f0.toNat, by omega⟩
        rw [hc] at h1 h2 hr ⊢
        have hne : 0 ≠ c := by omega
        unfold bump at hr
        rw [if_pos ⟨h1, h2⟩] at hr
        simp only [if_pos h1, h2, decide_true, Option.bind_some, if_true, if_pos (show (0 : Int) ≤ (c : Int) by omega), hlen, if_pos (show (c : Int) < ((7 : Nat) : Int) by omega), if_pos (show (0 : Int) < ((7 : Nat) : Int) by omega)]
        simp only [Int.toNat_natCast] at hr ⊢
        rw [show rd (s.set (0 : Int).toNat (wrap64 (rd s 0 + 1))) (c : Int) = rd s (c : Int) from rd_set_ne s 0 c _ hne, Int.toNat_zero, List.set_comm _ _ hne]
        exact hr
      · unfold bump at hr
        rw [if_neg (by omega)] at hr
        simp only [if_pos h1, h2, decide_false, Option.bind_some, Bool.false_eq_true, if_false]
        exact hr
    · unfold bump at hr
      rw [if_neg (by omega)] at hr
      simp only [if_neg h1, Option.bind_some, Bool.false_eq_true, if_false]
      exact hr
  · rintro s rfl
    refine ⟨_, Ev.step (fun k => impl_CountProblems.l0.eq_2 _ _ _ _ k) ?_, rfl⟩
    simp only [if_neg (show ¬ (l.length : Int) < (l.length : Int) by omega)]
    exact Ev.some (by rw [List.take_length]; rfl)

theorem pure : laws_FnExactCountProblems.Pure := by
  intro l hq
  apply EvP.rounds
  unfold laws_FnExactCountProblems.f
  refine EvP.bindP (szProblemS_ev l 1048576 (by omega) (by omega) hq) (fun t ⟨_, hs⟩ => ?_)
  by_cases hn : t < 0
  · simp only [if_pos hn]
    exact EvP.now rfl
  simp only [if_neg hn]
  obtain ⟨hs1, _⟩ := hs (by omega)
  have h28 : (l.map toProblemS_el).length ≤ 1048576 := by simpa using hs1
  have h7 : (cnt (l.map toProblemS_el)).length = 7 := cnt_len _
  obtain ⟨x, hx, _⟩ := markProblemS_ev (l.map toProblemS_el) 1 (by omega) (by omega)
  obtain ⟨y, hy, hh, _⟩ := markInt64S_ev (cnt (l.map toProblemS_el)) 1 (by omega) (by omega)
  refine EvP.bind (toProblemS_ev l hs1) ?_
  refine EvP.bind (spec_ev _ h28) ?_
  refine EvP.bind (toProblemS_ev l hs1) ?_
  refine EvP.bind (impl_ev _ h28) ?_
  refine EvP.bind (eqInt64S_ev _ (by omega)) ?_
  simp only [if_true]
  refine EvP.bind (toProblemS_ev l hs1) ?_
  refine EvP.bind (eqProblemS_ev _ h28) ?_
  simp only [if_true]
  refine EvP.bind hx ?_
  simp only [if_neg (show ¬ (1 + 3 * ((l.map toProblemS_el).length : Int)) < 0 by omega)]
  refine EvP.bind (eqInt64S_ev _ (by omega)) ?_
  refine EvP.step (fun k => laws_FnExactCountProblems.j0.eq_2 _ _ _ _ k) ?_
  simp only [Bool.not_true, Bool.false_eq_true, if_false]
  refine EvP.bind hy (EvP.bind hh ?_)
  simp only [if_neg (show ¬ (1 + ((cnt (l.map toProblemS_el)).length : Int)) < 0 by omega), if_true]
  refine EvP.bind (toProblemS_ev l hs1) (EvP.bind (impl_ev _ h28) (EvP.bind (eqInt64S_ev _ (by omega)) ?_))
  simp only [if_true]
  refine EvP.bind hh ?_
  simp only [if_neg (show ¬ (1 + ((cnt (l.map toProblemS_el)).length : Int)) < 0 by omega), if_true]
  exact EvP.now rfl
end Go.Proofs.Ytdphbanfheejoaa.PureFnExactCountProblems
