/- The law FnExactCountLines: part 3 of its texts, joined (wip/pack.py). -/
import Derived.Test.YtibfmfmekhocdaaKFnExactCountLinesa
import Derived.Test.YtibfmfmekhocdaaKFnExactCountLinesb
import Derived.Test.YtibfmfmekhocdaaKFnExactCountLinesc
import Derived.Test.YtibfmfmekhocdaaRows
import Derived.WalkKit
import Derived.ProofKit
import Derived.OpenShut
import Derived.ShutString
import Derived.ChangeOld
import Derived.Below
import Derived.SizedLaws

section
namespace Go.Proofs.Ytibfmfmekhocdaa.SL
open Go.RowKit Go.Proofs.YtibfmfmekhocdaaW.PrintWords Go.Proofs.Ytibfmfmekhocdaa.XL Go.Proofs.Ytibfmfmekhocdaa.EvK
set_option linter.unusedVariables false
set_option linter.unusedSimpArgs false
theorem szStringS_ev (l : List ByteArray) (left : Int) (h0 : 0 ≤ left) (h1 : left ≤ 1048576) (hq : (l.length ≤ maxLen ∧ ∀ y1 ∈ l, y1.size ≤ maxLen)) : EvP (fun k => laws_szStringS.f k l left) (fun t => t ≤ left ∧ (0 ≤ t → l.length ≤ 1048576 ∧ ∀ x ∈ l, x.size ≤ 1048576)) := by
  obtain ⟨hl, hq⟩ := hq
  unfold maxLen at hl
  unfold laws_szStringS.f
  rw [w64 (by omega) (by omega)]
  by_cases hc : left - (l.length : Int) < 0
  · simp only [if_pos hc]
    exact EvP.now ⟨by omega, by omega⟩
  simp only [if_neg hc]
  refine for_evp (L := fun k (s : Int) i => laws_szStringS.l0 k l s i) l.length (fun i s => 0 ≤ s ∧ s ≤ left - (l.length : Int) ∧ ∀ x ∈ l.take i, x.size ≤ 1048576) ?_ ?_ _ ⟨by omega, by omega, by simp⟩
  · rintro i s hi ⟨hs0, hs1, hs⟩ K
    have e : rdOf ByteArray.empty l (i : Int) = l[i] := getD_at l ByteArray.empty i hi
    refine EvP.step (fun k => laws_szStringS.l0.eq_2 _ _ _ k) ?_
    have hz := hq _ (List.getElem_mem hi)
    unfold maxLen at hz
    simp only [if_pos (show (i : Int) < (l.length : Int) by omega), if_pos (show (0 : Int) ≤ (i : Int) by omega), e, w64 (show -9223372036854775808 ≤ (i : Int) + 1 by omega) (by omega), w64 (show -9223372036854775808 ≤ s - (l[i].size : Int) by omega) (by omega)]
    by_cases hn : s - (l[i].size : Int) < 0
    · simp only [if_pos hn]
      exact EvP.now ⟨by omega, by omega⟩
    · simp only [if_neg hn]
      exact K _ ⟨by omega, by omega, take_all hi hs (by omega)⟩
  · rintro s ⟨hs0, hs1, hs⟩
    refine EvP.step (fun k => laws_szStringS.l0.eq_2 _ _ _ k) ?_
    simp only [if_neg (show ¬ (l.length : Int) < (l.length : Int) by omega)]
    exact EvP.now ⟨by omega, fun _ => ⟨by omega, by simpa using hs⟩⟩
end Go.Proofs.Ytibfmfmekhocdaa.SL
end

section
namespace Go.Proofs.Ytibfmfmekhocdaa.SL
open Go.RowKit Go.Proofs.YtibfmfmekhocdaaW.PrintWords Go.Proofs.Ytibfmfmekhocdaa.XL Go.Proofs.Ytibfmfmekhocdaa.EvK
set_option linter.unusedVariables false
set_option linter.unusedSimpArgs false
def toStringS_el (x : ByteArray) : ByteArray := x
theorem toStringS_ev (l : List ByteArray) (hl : l.length ≤ 1048576) : Ev (fun k => laws_toStringS.f k l) (l.map toStringS_el) := by
  apply EvP.eq
  unfold laws_toStringS.f
  simp only [if_pos (show (0 : Int) ≤ (l.length : Int) by omega), Int.toNat_natCast, if_pos (show l.length ≤ 17592186044416 by omega)]
  refine for_evp (L := fun k (s : List ByteArray) i => laws_toStringS.l0 k l s i) l.length (fun i s => s = (l.take i).map toStringS_el ++ List.replicate (l.length - i) (⟨#[]⟩ : ByteArray)) ?_ ?_ (List.replicate l.length (⟨#[]⟩ : ByteArray)) (by simp)
  · rintro i s hi rfl K
    have e : rdOf ByteArray.empty l (i : Int) = l[i] := getD_at l ByteArray.empty i hi
    have hlen := done_len toStringS_el l (⟨#[]⟩ : ByteArray) i (by omega)
    refine EvP.step (fun k => laws_toStringS.l0.eq_2 _ _ _ k) ?_
    simp only [if_pos (show (i : Int) < (l.length : Int) by omega), if_pos (show (0 : Int) ≤ (i : Int) by omega), e, hlen, w64 (show -9223372036854775808 ≤ (i : Int) + 1 by omega) (by omega), Int.toNat_natCast]
    refine K _ ?_
    show List.set _ i (toStringS_el l[i]) = _
    exact map_done toStringS_el l _ i hi
  · rintro s rfl
    refine EvP.step (fun k => laws_toStringS.l0.eq_2 _ _ _ k) ?_
    simp only [if_neg (show ¬ (l.length : Int) < (l.length : Int) by omega)]
    exact EvP.now (by simp)
end Go.Proofs.Ytibfmfmekhocdaa.SL
end

section
namespace Go.Proofs.Ytibfmfmekhocdaa.SL
open Go.RowKit Go.Proofs.YtibfmfmekhocdaaW.PrintWords Go.Proofs.Ytibfmfmekhocdaa.XL Go.Proofs.Ytibfmfmekhocdaa.EvK
set_option linter.unusedVariables false
set_option linter.unusedSimpArgs false
theorem eqStringS_ev (l : List ByteArray) (hl : l.length ≤ 1048576) : Ev (fun k => laws_eqStringS.f k l l) true := by
  apply EvP.eq
  unfold laws_eqStringS.f
  simp only [if_true]
  refine for_evp (L := fun k (s : Unit) i => laws_eqStringS.l0 k l l i) l.length (fun i s => True) ?_ ?_ () trivial
  · rintro i s hi - K
    refine EvP.step (fun k => laws_eqStringS.l0.eq_2 _ _ _ k) ?_
    simp only [if_pos (show (i : Int) < (l.length : Int) by omega), if_pos (show (0 : Int) ≤ (i : Int) by omega), if_true, w64 (show -9223372036854775808 ≤ (i : Int) + 1 by omega) (by omega)]
    exact K () trivial
  · rintro s -
    refine EvP.step (fun k => laws_eqStringS.l0.eq_2 _ _ _ k) ?_
    simp only [if_neg (show ¬ (l.length : Int) < (l.length : Int) by omega)]
    exact EvP.now rfl
end Go.Proofs.Ytibfmfmekhocdaa.SL
end

section
namespace Go.Proofs.Ytibfmfmekhocdaa.SL
open Go.RowKit Go.Proofs.YtibfmfmekhocdaaW.PrintWords Go.Proofs.Ytibfmfmekhocdaa.XL Go.Proofs.Ytibfmfmekhocdaa.EvK
set_option linter.unusedVariables false
set_option linter.unusedSimpArgs false
theorem markText_ev (c : Int) (h0 : 0 ≤ c) (h1 : c ≤ 4611686018427387904) : ∃ s : ByteArray, Ev (fun k => laws_markText.f k c) s := by
  unfold laws_markText.f
  by_cases hc : c ≤ 0
  · simp only [if_pos hc]
    exact ⟨_, Ev.now _⟩
  simp only [if_neg hc]
  have key : ∀ (d : Nat) (x : Int) (y : ByteArray), 0 ≤ x → x ≤ d → y.size + d ≤ 9223372036854775000 → ∃ s : ByteArray, Ev (fun k => laws_markText.l0 k x y) s := by
    intro d
    induction d using Nat.strongRecOn with
    | _ d ih =>
    intro x y hx hd hy
    by_cases hp : x > 0
    · have hz : (strOfNums [(wrap64 (48 + Int.tmod x 10)) % 256]).size = 1 := rfl
      have hd' : Int.tdiv x 10 = x / 10 := Int.tdiv_eq_ediv_of_nonneg hx
      have hw : wrap64 (Int.tdiv x 10) = x / 10 := by rw [hd', w64 (by omega) (by omega)]
      obtain ⟨s, hs⟩ := ih (d - 1) (by omega) (x / 10) (strOfNums [(wrap64 (48 + Int.tmod x 10)) % 256] ++ y) (by omega) (by omega) (by rw [ByteArray.size_append, hz]; omega)
      refine ⟨s, Ev.step (fun k => laws_markText.l0.eq_2 _ _ k) ?_⟩
      simp only [if_pos hp, Option.bind_some, hz, if_pos (show 1 + y.size ≤ 9223372036854775807 by omega), hw]
      exact hs
    · refine ⟨(⟨#[109]⟩ : ByteArray) ++ y, Ev.step (fun k => laws_markText.l0.eq_2 _ _ k) ?_⟩
      simp only [if_neg hp, if_pos (show 1 + y.size ≤ 9223372036854775807 by omega)]
      exact Ev.now _
  exact key c.toNat c ⟨#[]⟩ h0 (by omega) (by show 0 + _ ≤ _; omega)
end Go.Proofs.Ytibfmfmekhocdaa.SL
end

section
namespace Go.Proofs.Ytibfmfmekhocdaa.SL
open Go.RowKit Go.Proofs.YtibfmfmekhocdaaW.PrintWords Go.Proofs.Ytibfmfmekhocdaa.XL Go.Proofs.Ytibfmfmekhocdaa.EvK
set_option linter.unusedVariables false
set_option linter.unusedSimpArgs false
theorem markStringS_ev (l : List ByteArray) (c : Int) (h0 : 0 ≤ c) (h1 : c + (l.length : Int) ≤ 4611686018427387904) :
    ∃ y : List ByteArray, Ev (fun k => laws_markStringS.f k l c) (c + (l.length : Int), y) ∧ Ev (fun k => laws_heldStringS.f k y c) (c + (l.length : Int)) ∧ y.length = l.length := by
  obtain ⟨T, hT⟩ : ∃ T : Int → ByteArray, ∀ x : Int, 0 ≤ x → x ≤ 4611686018427387904 → Ev (fun k => laws_markText.f k x) (T x) := ⟨fun x => if h : 0 ≤ x ∧ x ≤ 4611686018427387904 then Classical.choose (markText_ev x h.1 h.2) else ByteArray.empty, fun x h h' => by simp only [h, h', and_self, dif_pos]; exact Classical.choose_spec (markText_ev x h h')⟩
  let E : Nat → ByteArray := fun j => T (c + (j : Int))
  have hset : ∀ (i : Nat) (h : i < l.length), ((List.range i).map E ++ l.drop i).set i (E i) = (List.range (i + 1)).map E ++ l.drop (i + 1) := fun i h => set_done E l i h
  have hlen : ∀ (i : Nat), i ≤ l.length → ((List.range i).map E ++ l.drop i).length = l.length := by intro i h; simp; omega
  refine ⟨(List.range l.length).map E, EvP.eq ?_, EvP.eq ?_, by simp⟩
  · unfold laws_markStringS.f
    refine for_evp (L := fun k (s : List ByteArray × Int) i => laws_markStringS.l0 k s.1 s.2 i) l.length (fun i s => s = ((List.range i).map E ++ l.drop i, c + (i : Int))) ?_ ?_ (l, c) (by simp)
    · rintro i s hi rfl K
      refine EvP.step (fun k => laws_markStringS.l0.eq_2 _ _ _ k) ?_
      simp only [hlen i (by omega), if_pos (show (i : Int) < (l.length : Int) by omega), if_pos (show (0 : Int) ≤ (i : Int) by omega), Option.bind_some, w64 (show -9223372036854775808 ≤ (i : Int) + 1 by omega) (by omega), w64 (show -9223372036854775808 ≤ c + (i : Int) + 1 by omega) (by omega), Int.toNat_natCast]
      refine EvP.bind (hT (c + (i : Int)) (by omega) (by omega)) ?_
      refine K (_, _) ?_
      rw [← hset i hi, Prod.mk.injEq]
      refine ⟨?_, by push_cast; omega⟩
      have g1 := hlen i (by omega)
      generalize (List.range i).map E ++ l.drop i = L at g1
      have g2 : i < L.length := by omega
      first | rfl | (simp [E, getD_set_self, g2])
    · rintro s rfl
      refine EvP.step (fun k => laws_markStringS.l0.eq_2 _ _ _ k) ?_
      simp only [hlen l.length (Nat.le_refl _), if_neg (show ¬ (l.length : Int) < (l.length : Int) by omega)]
      exact EvP.now (by simp)
  · unfold laws_heldStringS.f
    have hl2 : ((List.range l.length).map E).length = l.length := by simp
    refine for_evp (L := fun k (s : Int) i => laws_heldStringS.l0 k ((List.range l.length).map E) s i) l.length (fun i s => s = c + (i : Int)) ?_ ?_ c (by simp)
    · rintro i s hi rfl K
      have e : rdOf ByteArray.empty ((List.range l.length).map E) (i : Int) = E i := by
        rw [show rdOf ByteArray.empty ((List.range l.length).map E) (i : Int) = ((List.range l.length).map E)[i]'(by simpa using hi) from getD_at _ ByteArray.empty i (by simpa using hi)]; simp
      refine EvP.step (fun k => laws_heldStringS.l0.eq_2 _ _ _ k) ?_
      simp only [hl2, if_pos (show (i : Int) < (l.length : Int) by omega), if_pos (show (0 : Int) ≤ (i : Int) by omega), e, E, if_true, w64 (show -9223372036854775808 ≤ (i : Int) + 1 by omega) (by omega), w64 (show -9223372036854775808 ≤ c + (i : Int) + 1 by omega) (by omega)]
      refine EvP.bind (hT (c + (i : Int)) (by omega) (by omega)) ?_
      simp only [if_true]
      exact K _ (by push_cast; omega)
    · rintro s rfl
      refine EvP.step (fun k => laws_heldStringS.l0.eq_2 _ _ _ k) ?_
      simp only [hl2, if_neg (show ¬ (l.length : Int) < (l.length : Int) by omega)]
      exact EvP.now rfl
end Go.Proofs.Ytibfmfmekhocdaa.SL
end

section
namespace Go.Proofs.Ytibfmfmekhocdaa.SL
open Go.RowKit Go.Proofs.YtibfmfmekhocdaaW.PrintWords Go.Proofs.Ytibfmfmekhocdaa.XL Go.Proofs.Ytibfmfmekhocdaa.EvK
set_option linter.unusedVariables false
set_option linter.unusedSimpArgs false
theorem eqInt64S_ev (l : List Int) (hl : l.length ≤ 1048576) : Ev (fun k => laws_eqInt64S.f k l l) true := by
  apply EvP.eq
  unfold laws_eqInt64S.f
  simp only [if_true]
  refine for_evp (L := fun k (s : Unit) i => laws_eqInt64S.l0 k l l i) l.length (fun i s => True) ?_ ?_ () trivial
  · rintro i s hi - K
    refine EvP.step (fun k => laws_eqInt64S.l0.eq_2 _ _ _ k) ?_
    simp only [if_pos (show (i : Int) < (l.length : Int) by omega), if_pos (show (0 : Int) ≤ (i : Int) by omega), if_true, w64 (show -9223372036854775808 ≤ (i : Int) + 1 by omega) (by omega)]
    exact K () trivial
  · rintro s -
    refine EvP.step (fun k => laws_eqInt64S.l0.eq_2 _ _ _ k) ?_
    simp only [if_neg (show ¬ (l.length : Int) < (l.length : Int) by omega)]
    exact EvP.now rfl
end Go.Proofs.Ytibfmfmekhocdaa.SL
end

section
namespace Go.Proofs.Ytibfmfmekhocdaa.SL
open Go.RowKit Go.Proofs.YtibfmfmekhocdaaW.PrintWords Go.Proofs.Ytibfmfmekhocdaa.XL Go.Proofs.Ytibfmfmekhocdaa.EvK
set_option linter.unusedVariables false
set_option linter.unusedSimpArgs false
theorem markInt64S_ev (l : List Int) (c : Int) (h0 : 0 ≤ c) (h1 : c + (l.length : Int) ≤ 4611686018427387904) :
    ∃ y : List Int, Ev (fun k => laws_markInt64S.f k l c) (c + (l.length : Int), y) ∧ Ev (fun k => laws_heldInt64S.f k y c) (c + (l.length : Int)) ∧ y.length = l.length := by
  let E : Nat → Int := fun j => c + (j : Int)
  have hset : ∀ (i : Nat) (h : i < l.length), ((List.range i).map E ++ l.drop i).set i (E i) = (List.range (i + 1)).map E ++ l.drop (i + 1) := fun i h => set_done E l i h
  have hlen : ∀ (i : Nat), i ≤ l.length → ((List.range i).map E ++ l.drop i).length = l.length := by intro i h; simp; omega
  refine ⟨(List.range l.length).map E, EvP.eq ?_, EvP.eq ?_, by simp⟩
  · unfold laws_markInt64S.f
    refine for_evp (L := fun k (s : List Int × Int) i => laws_markInt64S.l0 k s.1 s.2 i) l.length (fun i s => s = ((List.range i).map E ++ l.drop i, c + (i : Int))) ?_ ?_ (l, c) (by simp)
    · rintro i s hi rfl K
      refine EvP.step (fun k => laws_markInt64S.l0.eq_2 _ _ _ k) ?_
      simp only [hlen i (by omega), if_pos (show (i : Int) < (l.length : Int) by omega), if_pos (show (0 : Int) ≤ (i : Int) by omega), Option.bind_some, w64 (show -9223372036854775808 ≤ (i : Int) + 1 by omega) (by omega), w64 (show -9223372036854775808 ≤ c + (i : Int) + 1 by omega) (by omega), Int.toNat_natCast]
      refine K (_, _) ?_
      rw [← hset i hi, Prod.mk.injEq]
      refine ⟨?_, by push_cast; omega⟩
      have g1 := hlen i (by omega)
      generalize (List.range i).map E ++ l.drop i = L at g1
      have g2 : i < L.length := by omega
      first | rfl | (simp [E, getD_set_self, g2])
    · rintro s rfl
      refine EvP.step (fun k => laws_markInt64S.l0.eq_2 _ _ _ k) ?_
      simp only [hlen l.length (Nat.le_refl _), if_neg (show ¬ (l.length : Int) < (l.length : Int) by omega)]
      exact EvP.now (by simp)
  · unfold laws_heldInt64S.f
    have hl2 : ((List.range l.length).map E).length = l.length := by simp
    refine for_evp (L := fun k (s : Int) i => laws_heldInt64S.l0 k ((List.range l.length).map E) s i) l.length (fun i s => s = c + (i : Int)) ?_ ?_ c (by simp)
    · rintro i s hi rfl K
      have e : rd ((List.range l.length).map E) (i : Int) = E i := by
        rw [show rd ((List.range l.length).map E) (i : Int) = ((List.range l.length).map E)[i]'(by simpa using hi) from getD_at _ 0 i (by simpa using hi)]; simp
      refine EvP.step (fun k => laws_heldInt64S.l0.eq_2 _ _ _ k) ?_
      simp only [hl2, if_pos (show (i : Int) < (l.length : Int) by omega), if_pos (show (0 : Int) ≤ (i : Int) by omega), e, E, if_true, w64 (show -9223372036854775808 ≤ (i : Int) + 1 by omega) (by omega), w64 (show -9223372036854775808 ≤ c + (i : Int) + 1 by omega) (by omega)]
      exact K _ (by push_cast; omega)
    · rintro s rfl
      refine EvP.step (fun k => laws_heldInt64S.l0.eq_2 _ _ _ k) ?_
      simp only [hl2, if_neg (show ¬ (l.length : Int) < (l.length : Int) by omega)]
      exact EvP.now rfl
end Go.Proofs.Ytibfmfmekhocdaa.SL
end

section
namespace Go.Proofs.Ytibfmfmekhocdaa.PureFnExactCountLines
open Go.RowKit Go.Proofs.YtibfmfmekhocdaaW.PrintWords Go.Proofs.YtibfmfmekhocdaaW.PrintMore Go.Proofs.Ytibfmfmekhocdaa.XL Go.Proofs.Ytibfmfmekhocdaa.EvK Go.Proofs.Ytibfmfmekhocdaa.LinesL Go.Proofs.Ytibfmfmekhocdaa.SL Go.Proofs.Ytibfmfmekhocdaa.SortT Go.Proofs.Ytibfmfmekhocdaa.CntMap Go.Proofs.Ytibfmfmekhocdaa.PCount Go.Proofs.Ytibfmfmekhocdaa.PCntSpec
set_option linter.unusedVariables false
set_option linter.unusedSimpArgs false
def ans (l : List ByteArray) : List ByteArray × List Int × Int := if repOk l = true then ((runs (sortT l)).map (fun p => p.1), (runs (sortT l)).map (fun p => (p.2 : Int)), 0) else ([], [], 1)
theorem spec_ev (l : List ByteArray) (hl : l.length ≤ 1048576) (hs : ∀ x ∈ l, x.size ≤ 1048576) : Ev (fun k => spec_CountLines.f k l) (ans l) := by
  unfold spec_CountLines.f ans
  refine Ev.bind (spec_rep_ev l hl hs) ?_
  by_cases h : repOk l = true
  · simp only [if_pos h]
    refine Ev.bind (PSort.sorted_ev l hl) ?_
    have := spec_loop (sortT l) [] (by rw [List.nil_append, sortT_len]; exact hl)
    exact this
  · simp only [if_neg h]
    exact Ev.now _
theorem keys_eq (l : List ByteArray) : impl_CountLines.keys l = (runs (sortT l)).map (fun p => p.1) := by
  unfold impl_CountLines.keys
  rw [keys_runs, List.map_map]
  exact List.map_congr_left (fun p _ => rfl)
theorem impl_ev (l : List ByteArray) (hl : l.length ≤ 1048576) (hs : ∀ x ∈ l, x.size ≤ 1048576) : Ev (fun k => impl_CountLines.f k l) (ans l) := by
  unfold impl_CountLines.f ans
  refine Ev.bind (impl_rep_ev l hl hs) ?_
  by_cases h : repOk l = true
  · have hok : impl_CountLines.ok l = true := by
      unfold impl_CountLines.ok
      simp only [Bool.and_eq_true, decide_eq_true_eq, List.all_eq_true]
      exact ⟨hl, hs⟩
    simp only [if_pos h, if_pos hok, keys_eq, List.map_map]
    have e : (runs (sortT l)).map (cntOf (cntD l) ∘ fun p => p.1) = (runs (sortT l)).map (fun p => (p.2 : Int)) := List.map_congr_left (fun p hp => counts_runs l hl p hp)
    rw [e]
    exact Ev.now _
  · simp only [if_neg h]
    exact Ev.now _
theorem pure : laws_FnExactCountLines.Pure := by
  intro l hq
  apply EvP.rounds
  unfold laws_FnExactCountLines.f
  refine EvP.bindP (szStringS_ev l 1048576 (by omega) (by omega) hq) ?_
  intro t ht
  by_cases hn : t < 0
  · simp only [if_pos hn]
    exact EvP.now rfl
  simp only [if_neg hn]
  obtain ⟨h1, h2⟩ := ht.2 (by omega)
  have e : l.map toStringS_el = l := List.map_id l
  have hto := toStringS_ev l h1
  rw [e] at hto
  have hf1 := spec_ev l h1 h2
  have hf2 := impl_ev l h1 h2
  have hr : (runs (sortT l)).length ≤ 1048576 := Nat.le_trans (runs_len _) (by rw [sortT_len]; exact h1)
  have hlen : (ans l).1.length ≤ 1048576 := by
    unfold ans
    split
    · rw [List.length_map]; exact hr
    · simp
  have hlen2 : (ans l).2.1.length ≤ 1048576 := by
    unfold ans
    split
    · rw [List.length_map]; exact hr
    · simp
  generalize ans l = a at *
  have hei := eqStringS_ev a.1 hlen
  have hej := eqInt64S_ev a.2.1 hlen2
  have hes := eqStringS_ev l h1
  obtain ⟨y, hy1, hy2, hy3⟩ := markStringS_ev a.1 1 (by omega) (by omega)
  obtain ⟨u, hu1, hu2, hu3⟩ := markInt64S_ev a.2.1 (1 + (a.1.length : Int)) (by omega) (by omega)
  obtain ⟨z, hz1, _⟩ := markStringS_ev l 1 (by omega) (by omega)
  refine EvP.bind hto (EvP.bind hf1 (EvP.bind hto (EvP.bind hf2 (EvP.bind hei ?_))))
  simp only [if_true]
  refine EvP.bind hej ?_
  simp only [if_true]
  refine EvP.bind hto (EvP.bind hes ?_)
  simp only [if_true]
  refine EvP.bind hz1 ?_
  simp only [if_pos (show ¬ (1 + (l.length : Int) < 0) by omega)]
  refine EvP.bind hei ?_
  simp only [if_true]
  refine EvP.bind hej ?_
  simp only [if_true]
  refine EvP.bind hy1 (EvP.bind hu1 (EvP.bind hy2 ?_))
  simp only [if_pos (show ¬ (1 + (a.1.length : Int) < 0) by omega)]
  refine EvP.bind hu2 ?_
  simp only [if_pos (show ¬ (1 + (a.1.length : Int) + (a.2.1.length : Int) < 0) by omega), if_true]
  refine EvP.bind hto (EvP.bind hf2 (EvP.bind hei ?_))
  simp only [if_true]
  refine EvP.bind hej ?_
  simp only [if_true]
  refine EvP.bind hy2 ?_
  simp only [if_pos (show ¬ (1 + (a.1.length : Int) < 0) by omega)]
  refine EvP.bind hu2 ?_
  simp only [if_pos (show ¬ (1 + (a.1.length : Int) + (a.2.1.length : Int) < 0) by omega), if_true]
  exact EvP.now rfl
end Go.Proofs.Ytibfmfmekhocdaa.PureFnExactCountLines
end

section
namespace Go.Proofs.Ytibfmfmekhocdaa.RowFnExactCountLines
open Go.ChangeShapes Go.WideShapes Go.ChangeAt Go.RowKit Go.Proofs.YtibfmfmekhocdaaW.PrintWords Go.Proofs.Ytibfmfmekhocdaa.XL Go.Proofs.Ytibfmfmekhocdaa.Open
open Go.ChangeMaps (open_string shut_string)
set_option linter.unusedVariables false
theorem own : ownKnob Try.prog.godebug = none := by kernel_rfl
theorem laidOut : laidOutB Try.prog = true := by kernel_rfl
set_option maxRecDepth 100000 in
theorem lifted (os : Os) (started : os.Started) (H : Type) (enc : TypeId × Value → H) :
    ReturnsInHanded {} Try.checked os 3 .any (Rows.fnExactCountLinesSpec.pre6 enc Try.prog Try.f3 Rows.fnExactCountLinesRow.domain false) (Rows.fnExactCountLinesSpec.post enc Try.prog Try.f3 false true false false) := by
  refine returnsInHanded_of_change_sized (C := Try.checked) own started (by kernel_rfl) Try.func3
    (ChangeSpec.witness6 (enc := enc) (C := Try.checked) false ⟨#[], #[(.slice none 0 0)], []⟩ 8 (by kernel_rfl) (by kernel_rfl) (by kernel_rfl) (by kernel_rfl)) ?_
  intro W base args ds gs before hval0 hW hcnd hsz0 _
  have hsz : (DataW.weightsEach Try.prog (Try.f3.params.toList ++ Rows.fnExactCountLinesSpec.plain.varTypes Try.prog) (ds ++ gs)).all (· ≤ reachBytes) = true := hsz0
  have hval : ∀ (j : Nat) t v, Try.f3.params[j]? = some t → args[j]? = some v → Value.okWide Try.prog W .any base t v := hval0
  have hW' := hW
  obtain ⟨p, q, hA0, hV, rfl, hfz, hnd⟩ := hW
  have hA : DataW.TrodAll enc Try.prog W 0 (fun _ => true) true Try.f3.params.toList args.toList ds p := hA0
  rw [Try.params3] at hA hval hsz
  obtain ⟨v0, vs0, d0, ds0, p0, q0, hargs, rfl, rfl, h0, r0⟩ := trodAll_cons hA
  obtain ⟨rfl, rfl, rfl⟩ := trodAll_nil r0
  obtain rfl : args = #[v0] := by cases args; simp_all
  obtain ⟨rfl, rfl⟩ := trodVars_none hV
  have kk0 := h0
  have lt0 : ∀ x ∈ p0, x.block < W.heap.size := by obtain ⟨m, hm⟩ := kk0; exact DataW.trod_lt m _ _ _ hm
  obtain ⟨A0, c0, a0, rfl, hc0, hr0, hq0⟩ := open_sl Try.underlying22 (by kernel_rfl) (Opens.string Try.underlying9 (by kernel_rfl)) (hval 0 22 v0 rfl rfl) h0
  obtain ⟨k, hp⟩ := PureFnExactCountLines.pure a0 hq0
  clear hA0 hval0 hsz0 hsz
  refine (laws_FnExactCountLines.calls k A0 c0 a0 true W hr0 hc0 hp).mono fun e W' ⟨he, bel0⟩ => ?_
  have bel : Below W.heap.size W W' := bel0
  subst he
  exact ⟨_, rfl, _, _, _, [], _, [], hW', trodAll_mk1 (shut_bool Try.underlying4 _), (trodAll_cons_mk (Below.trod laidOut (by kernel_rfl) (of_decide_eq_true (by kernel_rfl)) kk0 bel lt0) trodAll_mk0), rfl, bel.frame _, fun h => by cases h⟩
theorem over : Rows.fnExactCountLinesRow.holds Try.pinned (OpenSpec.ofChange Rows.fnExactCountLinesSpec) :=
  OpenClaim.holds_of_wide 3 Try.f3 rfl rfl rfl rfl rfl rfl rfl ⟨rfl, rfl, rfl, rfl, rfl⟩ rfl rfl rfl rfl rfl (by kernel_rfl) Try.func3 (by kernel_rfl)
    (of_decide_eq_true (by kernel_rfl)) (by unfold Func.isWrapper; first | (rw [if_pos (by decide +kernel)]; kernel_rfl) | (rw [if_neg (by decide +kernel)]; exact ⟨rfl, rfl⟩))
    (fun os started H enc _ => lifted os started H enc)
end Go.Proofs.Ytibfmfmekhocdaa.RowFnExactCountLines
namespace Go.Proofs.Ytibfmfmekhocdaa
theorem fnExactCountLines_holds : Rows.FnExactCountLinesSaid := RowFnExactCountLines.over
end Go.Proofs.Ytibfmfmekhocdaa
end
