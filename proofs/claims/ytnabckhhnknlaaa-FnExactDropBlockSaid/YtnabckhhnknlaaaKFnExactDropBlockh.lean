/- The law FnExactDropBlock: part 7 of its texts, joined (wip/pack.py). -/
import Derived.Test.YtnabckhhnknlaaaKFnExactDropBlocka
import Derived.Test.YtnabckhhnknlaaaKFnExactDropBlockb
import Derived.Test.YtnabckhhnknlaaaKFnExactDropBlockc
import Derived.Test.YtnabckhhnknlaaaKFnExactDropBlockd
import Derived.Test.YtnabckhhnknlaaaKFnExactDropBlocke
import Derived.Test.YtnabckhhnknlaaaKFnExactDropBlockf
import Derived.Test.YtnabckhhnknlaaaKFnExactDropBlockg
import Derived.Test.YtnabckhhnknlaaaRows
import Derived.WalkKit
import Derived.ProofKit
import Derived.OpenShut
import Derived.ShutString
import Derived.ChangeOld
import Derived.Below
import Derived.SizedLaws
import Derived.HandedShaped

section
namespace Go.Proofs.Ytnabckhhnknlaaa.SD
open Go.RowKit Go.Proofs.YtnabckhhnknlaaaW.PrintWords Go.Proofs.Ytnabckhhnknlaaa.XD Go.Proofs.Ytnabckhhnknlaaa.EvK
set_option linter.unusedVariables false
set_option linter.unusedSimpArgs false
theorem szBlockS_ev (l : List (S42)) (left : Int) (h0 : 0 ≤ left) (h1 : left ≤ 1048576) (hq : (l.length ≤ maxLen ∧ ∀ y1 ∈ l, Q42 y1)) : EvP (fun k => laws_szBlockS.f k l left) (fun t => t ≤ left ∧ (0 ≤ t → l.length ≤ 1048576 ∧ ∀ x ∈ l, (x.f0.size ≤ 1048576) ∧ (x.f1.size ≤ 1048576) ∧ (x.f2.size ≤ 1048576))) := by
  obtain ⟨hl, hq⟩ := hq
  unfold maxLen at hl
  unfold laws_szBlockS.f
  rw [w64 (by omega) (by omega)]
  by_cases hc : left - (l.length : Int) < 0
  · simp only [if_pos hc]
    exact EvP.now ⟨by omega, by omega⟩
  simp only [if_neg hc]
  refine for_evp (L := fun k (s : Int) i => laws_szBlockS.l0 k l s i) l.length (fun i s => 0 ≤ s ∧ s ≤ left - (l.length : Int) ∧ ∀ x ∈ l.take i, (x.f0.size ≤ 1048576) ∧ (x.f1.size ≤ 1048576) ∧ (x.f2.size ≤ 1048576)) ?_ ?_ _ ⟨by omega, by omega, by simp⟩
  · rintro i s hi ⟨hs0, hs1, hs⟩ K
    have e : rd_T42 l (i : Int) = l[i] := getD_at l z42 i hi
    refine EvP.step (fun k => laws_szBlockS.l0.eq_2 _ _ _ k) ?_
    obtain ⟨t, ht, ht1, ht2⟩ := szBlock_val l[i] s hs0 (by omega) (hq _ (List.getElem_mem hi))
    simp only [if_pos (show (i : Int) < (l.length : Int) by omega), if_pos (show (0 : Int) ≤ (i : Int) by omega), e, ht, Option.bind_some, w64 (show -9223372036854775808 ≤ (i : Int) + 1 by omega) (by omega)]
    by_cases hn : t < 0
    · simp only [if_pos hn]
      exact EvP.now ⟨by omega, by omega⟩
    · simp only [if_neg hn]
      exact K _ ⟨by omega, by omega, take_all hi hs (ht2 (by omega))⟩
  · rintro s ⟨hs0, hs1, hs⟩
    refine EvP.step (fun k => laws_szBlockS.l0.eq_2 _ _ _ k) ?_
    simp only [if_neg (show ¬ (l.length : Int) < (l.length : Int) by omega)]
    exact EvP.now ⟨by omega, fun _ => ⟨by omega, by simpa using hs⟩⟩
end Go.Proofs.Ytnabckhhnknlaaa.SD
end

section
namespace Go.Proofs.Ytnabckhhnknlaaa.SD
open Go.RowKit Go.Proofs.YtnabckhhnknlaaaW.PrintWords Go.Proofs.Ytnabckhhnknlaaa.XD Go.Proofs.Ytnabckhhnknlaaa.EvK
set_option linter.unusedVariables false
set_option linter.unusedSimpArgs false
def toBlockS_el (x : S42) : S45 := (⟨x.f0, x.f1, x.f2⟩ : S45)
theorem toBlockS_ev (l : List (S42)) (hl : l.length ≤ 1048576) : Ev (fun k => laws_toBlockS.f k l) (l.map toBlockS_el) := by
  apply EvP.eq
  unfold laws_toBlockS.f
  simp only [if_pos (show (0 : Int) ≤ (l.length : Int) by omega), Int.toNat_natCast, if_pos (show l.length ≤ 5864062014805 by omega)]
  refine for_evp (L := fun k (s : List (S45)) i => laws_toBlockS.l0 k l s i) l.length (fun i s => s = (l.take i).map toBlockS_el ++ List.replicate (l.length - i) z45) ?_ ?_ (List.replicate l.length z45) (by simp)
  · rintro i s hi rfl K
    have e : rd_T42 l (i : Int) = l[i] := getD_at l z42 i hi
    have hlen := done_len toBlockS_el l z45 i (by omega)
    refine EvP.step (fun k => laws_toBlockS.l0.eq_2 _ _ _ k) ?_
    simp only [if_pos (show (i : Int) < (l.length : Int) by omega), if_pos (show (0 : Int) ≤ (i : Int) by omega), e, laws_toBlock.f, Option.bind_some, hlen, w64 (show -9223372036854775808 ≤ (i : Int) + 1 by omega) (by omega), Int.toNat_natCast]
    refine K _ ?_
    show List.set _ i (toBlockS_el l[i]) = _
    exact map_done toBlockS_el l _ i hi
  · rintro s rfl
    refine EvP.step (fun k => laws_toBlockS.l0.eq_2 _ _ _ k) ?_
    simp only [if_neg (show ¬ (l.length : Int) < (l.length : Int) by omega)]
    exact EvP.now (by simp)
end Go.Proofs.Ytnabckhhnknlaaa.SD
end

section
namespace Go.Proofs.Ytnabckhhnknlaaa.SD
open Go.RowKit Go.Proofs.YtnabckhhnknlaaaW.PrintWords Go.Proofs.Ytnabckhhnknlaaa.XD Go.Proofs.Ytnabckhhnknlaaa.EvK
set_option linter.unusedVariables false
set_option linter.unusedSimpArgs false
theorem eqBlockS_ev (l : List (S45)) (hl : l.length ≤ 1048576) : Ev (fun k => laws_eqBlockS.f k l l) true := by
  apply EvP.eq
  unfold laws_eqBlockS.f
  simp only [if_true]
  refine for_evp (L := fun k (s : Unit) i => laws_eqBlockS.l0 k l l i) l.length (fun i s => True) ?_ ?_ () trivial
  · rintro i s hi - K
    refine EvP.step (fun k => laws_eqBlockS.l0.eq_2 _ _ _ k) ?_
    simp only [if_pos (show (i : Int) < (l.length : Int) by omega), if_pos (show (0 : Int) ≤ (i : Int) by omega), laws_eqBlock.f, Option.bind_some, if_true, w64 (show -9223372036854775808 ≤ (i : Int) + 1 by omega) (by omega)]
    exact K () trivial
  · rintro s -
    refine EvP.step (fun k => laws_eqBlockS.l0.eq_2 _ _ _ k) ?_
    simp only [if_neg (show ¬ (l.length : Int) < (l.length : Int) by omega)]
    exact EvP.now rfl
end Go.Proofs.Ytnabckhhnknlaaa.SD
end

section
namespace Go.Proofs.Ytnabckhhnknlaaa.SD
open Go.RowKit Go.Proofs.YtnabckhhnknlaaaW.PrintWords Go.Proofs.Ytnabckhhnknlaaa.XD Go.Proofs.Ytnabckhhnknlaaa.EvK
set_option linter.unusedVariables false
set_option linter.unusedSimpArgs false
theorem markText_ev (c : Int) (h0 : 0 ≤ c) (h1 : c ≤ 4611686018427387904) : ∃ s : ByteArray, Ev (fun k => laws_markText.f k c) s := by
  unfold laws_markText.f
  by_cases hc : c ≤ 0
  · simp only [if_pos hc]
    exact ⟨_, Ev.now _⟩
  simp only [if_neg hc]
  have key : ∀ (d : Nat) (x : Int) (y : ByteArray), 0 ≤ x → x ≤ d → y.size + d ≤ 9223372036854775000 → ∃ s : ByteArray, Ev (fun k => laws_markText.l0 k x y) s := by
    intro d
    induction d using Nat.strongRecOn with
    | _ d ih =>
    intro x y hx hd hy
    by_cases hp : x > 0
    · have hz : (strOfNums [(wrap64 (48 + Int.tmod x 10)) % 256]).size = 1 := rfl
      have hd' : Int.tdiv x 10 = x / 10 := Int.tdiv_eq_ediv_of_nonneg hx
      have hw : wrap64 (Int.tdiv x 10) = x / 10 := by rw [hd', w64 (by omega) (by omega)]
      obtain ⟨s, hs⟩ := ih (d - 1) (by omega) (x / 10) (strOfNums [(wrap64 (48 + Int.tmod x 10)) % 256] ++ y) (by omega) (by omega) (by rw [ByteArray.size_append, hz]; omega)
      refine ⟨s, Ev.step (fun k => laws_markText.l0.eq_2 _ _ k) ?_⟩
      simp only [if_pos hp, Option.bind_some, hz, if_pos (show 1 + y.size ≤ 9223372036854775807 by omega), hw]
      exact hs
    · refine ⟨(⟨#[109]⟩ : ByteArray) ++ y, Ev.step (fun k => laws_markText.l0.eq_2 _ _ k) ?_⟩
      simp only [if_neg hp, if_pos (show 1 + y.size ≤ 9223372036854775807 by omega)]
      exact Ev.now _
  exact key c.toNat c ⟨#[]⟩ h0 (by omega) (by show 0 + _ ≤ _; omega)
end Go.Proofs.Ytnabckhhnknlaaa.SD
end

section
namespace Go.Proofs.Ytnabckhhnknlaaa.SD
open Go.RowKit Go.Proofs.YtnabckhhnknlaaaW.PrintWords Go.Proofs.Ytnabckhhnknlaaa.XD Go.Proofs.Ytnabckhhnknlaaa.EvK
set_option linter.unusedVariables false
set_option linter.unusedSimpArgs false
theorem markBlockS_ev (l : List (S45)) (c : Int) (h0 : 0 ≤ c) (h1 : c + 3 * (l.length : Int) ≤ 4611686018427387904) :
    ∃ y : List (S45), Ev (fun k => laws_markBlockS.f k l c) (c + 3 * (l.length : Int), y) ∧ Ev (fun k => laws_heldBlockS.f k y c) (c + 3 * (l.length : Int)) ∧ y.length = l.length := by
  obtain ⟨T, hT⟩ : ∃ T : Int → ByteArray, ∀ x : Int, 0 ≤ x → x ≤ 4611686018427387904 → Ev (fun k => laws_markText.f k x) (T x) := ⟨fun x => if h : 0 ≤ x ∧ x ≤ 4611686018427387904 then Classical.choose (markText_ev x h.1 h.2) else ByteArray.empty, fun x h h' => by simp only [h, h', and_self, dif_pos]; exact Classical.choose_spec (markText_ev x h h')⟩
  let E : Nat → S45 := fun j => ⟨T (c + 3 * (j : Int)), T (c + 3 * (j : Int) + 1), T (c + 3 * (j : Int) + 1 + 1)⟩
  have hset : ∀ (i : Nat) (h : i < l.length), ((List.range i).map E ++ l.drop i).set i (E i) = (List.range (i + 1)).map E ++ l.drop (i + 1) := fun i h => set_done E l i h
  have hlen : ∀ (i : Nat), i ≤ l.length → ((List.range i).map E ++ l.drop i).length = l.length := by intro i h; simp; omega
  refine ⟨(List.range l.length).map E, EvP.eq ?_, EvP.eq ?_, by simp⟩
  · unfold laws_markBlockS.f
    refine for_evp (L := fun k (s : List (S45) × Int) i => laws_markBlockS.l0 k s.1 s.2 i) l.length (fun i s => s = ((List.range i).map E ++ l.drop i, c + 3 * (i : Int))) ?_ ?_ (l, c) (by simp)
    · rintro i s hi rfl K
      refine EvP.step (fun k => laws_markBlockS.l0.eq_2 _ _ _ k) ?_
      simp only [hlen i (by omega), if_pos (show (i : Int) < (l.length : Int) by omega), if_pos (show (0 : Int) ≤ (i : Int) by omega), Option.bind_some, w64 (show -9223372036854775808 ≤ (i : Int) + 1 by omega) (by omega), w64 (show -9223372036854775808 ≤ c + 3 * (i : Int) + 1 by omega) (by omega), w64 (show -9223372036854775808 ≤ c + 3 * (i : Int) + 1 + 1 by omega) (by omega), w64 (show -9223372036854775808 ≤ c + 3 * (i : Int) + 1 + 1 + 1 by omega) (by omega), Int.toNat_natCast]
      refine EvP.bind (hT (c + 3 * (i : Int)) (by omega) (by omega)) ?_
      refine EvP.bind (hT (c + 3 * (i : Int) + 1) (by omega) (by omega)) ?_
      refine EvP.bind (hT (c + 3 * (i : Int) + 1 + 1) (by omega) (by omega)) ?_
      refine K (_, _) ?_
      rw [← hset i hi, Prod.mk.injEq]
      refine ⟨?_, by push_cast; omega⟩
      have g1 := hlen i (by omega)
      generalize (List.range i).map E ++ l.drop i = L at g1
      have g2 : i < L.length := by omega
      first | rfl | (simp [rd_T45, E, getD_set_self, g2])
    · rintro s rfl
      refine EvP.step (fun k => laws_markBlockS.l0.eq_2 _ _ _ k) ?_
      simp only [hlen l.length (Nat.le_refl _), if_neg (show ¬ (l.length : Int) < (l.length : Int) by omega)]
      exact EvP.now (by simp)
  · unfold laws_heldBlockS.f
    have hl2 : ((List.range l.length).map E).length = l.length := by simp
    refine for_evp (L := fun k (s : Int) i => laws_heldBlockS.l0 k ((List.range l.length).map E) s i) l.length (fun i s => s = c + 3 * (i : Int)) ?_ ?_ c (by simp)
    · rintro i s hi rfl K
      have e : rd_T45 ((List.range l.length).map E) (i : Int) = E i := by
        rw [show rd_T45 ((List.range l.length).map E) (i : Int) = ((List.range l.length).map E)[i]'(by simpa using hi) from getD_at _ z45 i (by simpa using hi)]; simp
      refine EvP.step (fun k => laws_heldBlockS.l0.eq_2 _ _ _ k) ?_
      simp only [hl2, if_pos (show (i : Int) < (l.length : Int) by omega), if_pos (show (0 : Int) ≤ (i : Int) by omega), e, E, if_true, w64 (show -9223372036854775808 ≤ (i : Int) + 1 by omega) (by omega), w64 (show -9223372036854775808 ≤ c + 3 * (i : Int) + 1 by omega) (by omega), w64 (show -9223372036854775808 ≤ c + 3 * (i : Int) + 1 + 1 by omega) (by omega), w64 (show -9223372036854775808 ≤ c + 3 * (i : Int) + 1 + 1 + 1 by omega) (by omega)]
      refine EvP.bind (hT (c + 3 * (i : Int)) (by omega) (by omega)) ?_
      simp only [if_true]
      refine EvP.bind (hT (c + 3 * (i : Int) + 1) (by omega) (by omega)) ?_
      simp only [if_true]
      refine EvP.bind (hT (c + 3 * (i : Int) + 1 + 1) (by omega) (by omega)) ?_
      simp only [if_true]
      exact K _ (by push_cast; omega)
    · rintro s rfl
      refine EvP.step (fun k => laws_heldBlockS.l0.eq_2 _ _ _ k) ?_
      simp only [hl2, if_neg (show ¬ (l.length : Int) < (l.length : Int) by omega)]
      exact EvP.now rfl
end Go.Proofs.Ytnabckhhnknlaaa.SD
end

section
namespace Go.Proofs.Ytnabckhhnknlaaa.PureFnExactDropBlock
open Go.RowKit Go.Proofs.YtnabckhhnknlaaaW.PrintWords Go.Proofs.Ytnabckhhnknlaaa.XD Go.Proofs.Ytnabckhhnknlaaa.EvK Go.Proofs.Ytnabckhhnknlaaa.PBlockL Go.Proofs.Ytnabckhhnknlaaa.PSearch Go.Proofs.Ytnabckhhnknlaaa.SD
set_option linter.unusedVariables false
set_option linter.unusedSimpArgs false
theorem both_ev (l : List S45) (a b : ByteArray) (hs : Small l) : ∃ r : List S45 × Int, Ev (fun k => spec_DropBlock.f k l a b) r ∧ Ev (fun k => impl_DropBlock.f k l a b) r ∧ r.1.length ≤ l.length := by
  have hl := hs.1
  cases hok : listOk l with
  | false =>
    refine ⟨([], 1), ?_, ?_, by simp⟩
    · unfold spec_DropBlock.f
      refine Ev.bind (specOk_ev l hs) ?_
      simp only [hok, Bool.false_eq_true, if_false]
      exact Ev.now _
    · unfold impl_DropBlock.f
      refine Ev.bind (implOk_ev l hs) ?_
      simp only [hok, Bool.false_eq_true, if_false]
      exact Ev.now _
  | true =>
    obtain ⟨i, ha, h1⟩ := search_ev l ⟨a, b, ⟨#[]⟩⟩ hs.1 (sorted_of hok)
    have h2 := find_ev l ⟨a, b, ⟨#[]⟩⟩ hs.1 (sorted_of hok) i ha
    cases hh : hit l ⟨a, b, ⟨#[]⟩⟩ i with
    | false =>
      rw [hh] at h1 h2
      refine ⟨([], 3), ?_, ?_, by simp⟩
      · unfold spec_DropBlock.f
        refine Ev.bind (specOk_ev l hs) ?_
        simp only [hok, if_true]
        refine Ev.bind h2 ?_
        simp only [Bool.false_eq_true, if_false, if_pos (show (-1 : Int) < 0 by omega)]
        exact Ev.now _
      · unfold impl_DropBlock.f
        refine Ev.bind (implOk_ev l hs) ?_
        simp only [hok, if_true]
        refine Ev.bind h1 ?_
        simp only [Bool.false_eq_true, if_false]
        exact Ev.now _
    | true =>
      have hi : i < l.length := by
        simp only [hit, Bool.and_eq_true, decide_eq_true_eq] at hh
        exact hh.1
      rw [hh] at h1 h2
      have e1 : wrap64 ((i : Int) + 1) = (i : Int) + 1 := w64 (by omega) (by omega)
      have e2 : ((i : Int) + 1).toNat = i + 1 := by omega
      refine ⟨(l.take i ++ l.drop (i + 1), 0), ?_, ?_, by simp; omega⟩
      · unfold spec_DropBlock.f
        refine Ev.bind (specOk_ev l hs) ?_
        simp only [hok, if_true]
        refine Ev.bind h2 ?_
        simp only [if_true, if_neg (show ¬ (i : Int) < 0 by omega), Option.bind_some, if_pos (show (0 : Int) ≤ (i : Int) by omega), if_pos (show (i : Int) ≤ (l.length : Int) by omega), Int.toNat_natCast, List.nil_append, e1, e2,
          if_pos (show (0 : Int) ≤ (i : Int) + 1 by omega), if_pos (show (i : Int) + 1 ≤ (l.length : Int) by omega), if_pos (show ([] : List S45).length + (l.take i).length < 2932031007402 by simp; omega), if_pos (show (l.take i).length + (l.drop (i + 1)).length < 2932031007402 by simp; omega)]
        exact Ev.now _
      · have hd : slices_Delete_BlockS.f l (i : Int) ((i : Int) + 1) = some (l.take i ++ l.drop (i + 1)) := by
          unfold slices_Delete_BlockS.f
          rw [if_pos ⟨by omega, rfl, by omega⟩, Int.toNat_natCast, List.eraseIdx_eq_take_drop_succ]
        unfold impl_DropBlock.f slices_Clone_BlockS.f
        refine Ev.bind (implOk_ev l hs) ?_
        simp only [hok, if_true]
        refine Ev.bind h1 ?_
        simp only [if_true, Option.bind_some, List.nil_append, if_pos (show ([] : List S45).length + l.length < 2932031007402 by simp; omega), e1, hd]
        exact Ev.now _
theorem small_to (l : List S42) (h1 : l.length ≤ 1048576) (h2 : ∀ x ∈ l, x.f0.size ≤ 1048576 ∧ x.f1.size ≤ 1048576 ∧ x.f2.size ≤ 1048576) : Small (l.map toBlockS_el) := by
  refine ⟨by simpa using h1, fun x hx => ?_⟩
  obtain ⟨y, hy, rfl⟩ := List.mem_map.1 hx
  exact h2 y hy
theorem pure : laws_FnExactDropBlock.Pure := by
  intro l a b hq ha hb
  apply EvP.rounds
  unfold laws_FnExactDropBlock.f
  by_cases ha1 : (a.size : Int) > 1048576
  · simp only [if_pos ha1]
    exact EvP.now rfl
  by_cases hb1 : (b.size : Int) > 1048576
  · simp only [if_neg ha1, if_pos hb1]
    exact EvP.now rfl
  simp only [if_neg ha1, if_neg hb1]
  refine EvP.bindP (szBlockS_ev l 1048576 (by omega) (by omega) hq) (fun t ⟨_, hs⟩ => ?_)
  by_cases hn : t < 0
  · simp only [if_pos hn]
    exact EvP.now rfl
  simp only [if_neg hn]
  obtain ⟨h1, h2⟩ := hs (by omega)
  have hto := toBlockS_ev l h1
  have hsm := small_to l h1 h2
  generalize l.map toBlockS_el = L at hto hsm
  obtain ⟨r, e1, e2, hlen⟩ := both_ev L a b hsm
  have hL := hsm.1
  have hei := eqBlockS_ev r.1 (by omega)
  have hes := eqBlockS_ev L hsm.1
  obtain ⟨y, hy1, hy2, hy3⟩ := markBlockS_ev r.1 1 (by omega) (by omega)
  obtain ⟨z, hz1, _⟩ := markBlockS_ev L 1 (by omega) (by omega)
  refine EvP.bind hto (EvP.bind e1 (EvP.bind hto (EvP.bind e2 (EvP.bind hei ?_))))
  simp only [if_true, bne_self_eq_false]
  refine EvP.step (fun k => laws_FnExactDropBlock.j0.eq_2 _ _ _ _ _ _ _ _ _ k) ?_
  simp only [Bool.false_eq_true, if_false]
  refine EvP.bind hto (EvP.bind hes ?_)
  simp only [if_true]
  refine EvP.bind hz1 ?_
  simp only [if_neg (show ¬ (1 + 3 * (L.length : Int) < 0) by omega)]
  refine EvP.bind hei ?_
  simp only [if_true, bne_self_eq_false]
  refine EvP.step (fun k => laws_FnExactDropBlock.j1.eq_2 _ _ _ _ _ _ _ k) ?_
  simp only [Bool.false_eq_true, if_false]
  refine EvP.bind hy1 (EvP.bind hy2 ?_)
  simp only [if_neg (show ¬ (1 + 3 * (r.1.length : Int) < 0) by omega), if_true]
  refine EvP.bind hto (EvP.bind e2 (EvP.bind hei ?_))
  simp only [if_true, bne_self_eq_false]
  refine EvP.step (fun k => laws_FnExactDropBlock.j2.eq_2 _ _ _ k) ?_
  simp only [Bool.false_eq_true, if_false]
  refine EvP.bind hy2 ?_
  simp only [if_neg (show ¬ (1 + 3 * (r.1.length : Int) < 0) by omega), if_true]
  exact EvP.now rfl
end Go.Proofs.Ytnabckhhnknlaaa.PureFnExactDropBlock
end

section
namespace Go.Proofs.Ytnabckhhnknlaaa.RowFnExactDropBlock
open Go.ChangeShapes Go.WideShapes Go.ChangeAt Go.RowKit Go.Proofs.YtnabckhhnknlaaaW.PrintWords Go.Proofs.Ytnabckhhnknlaaa.XD Go.Proofs.Ytnabckhhnknlaaa.Open
open Go.ChangeMaps (open_string shut_string)
set_option linter.unusedVariables false
theorem own : ownKnob Try.prog.godebug = none := by kernel_rfl
theorem laidOut : laidOutB Try.prog = true := by kernel_rfl
set_option maxRecDepth 100000 in
theorem lifted (os : Os) (started : os.Started) (H : Type) (enc : TypeId × Value → H) :
    ReturnsInHanded {} Try.checked os 6 .any (Rows.fnExactDropBlockSpec.pre6 enc Try.prog Try.f6 Rows.fnExactDropBlockRow.domain false) (Rows.fnExactDropBlockSpec.post enc Try.prog Try.f6 false true false false) := by
  refine returnsInHanded_of_change_shaped (C := Try.checked) own started (by kernel_rfl) Try.func6
    (ChangeSpec.witness6 (enc := enc) (C := Try.checked) false ⟨#[], #[(.slice none 0 0), (.string ⟨#[]⟩), (.string ⟨#[]⟩)], []⟩ 8 (by kernel_rfl) (by kernel_rfl) (by kernel_rfl) (by kernel_rfl)) ?_
  intro W base args ds gs before hval0 hW hcnd hsz0 hsh _
  have hsz : (DataW.weightsEach Try.prog (Try.f6.params.toList ++ Rows.fnExactDropBlockSpec.plain.varTypes Try.prog) (ds ++ gs)).all (· ≤ reachBytes) = true := hsz0
  have hval : ∀ (j : Nat) t v, Try.f6.params[j]? = some t → args[j]? = some v → Value.okWide Try.prog W .any base t v := hval0
  have hW' := hW
  obtain ⟨p, q, hA0, hV, rfl, hfz, hnd⟩ := hW
  have hA : DataW.TrodAll enc Try.prog W 0 (fun _ => true) true Try.f6.params.toList args.toList ds p := hA0
  rw [Try.params6] at hA hval hsz
  obtain ⟨v0, vs0, d0, ds0, p0, q0, hargs, rfl, rfl, h0, r0⟩ := trodAll_cons hA
  obtain ⟨v1, vs1, d1, ds1, p1, q1, rfl, rfl, rfl, h1, r1⟩ := trodAll_cons r0
  obtain ⟨v2, vs2, d2, ds2, p2, q2, rfl, rfl, rfl, h2, r2⟩ := trodAll_cons r1
  obtain ⟨rfl, rfl, rfl⟩ := trodAll_nil r2
  obtain rfl : args = #[v0, v1, v2] := by cases args; simp_all
  obtain ⟨rfl, rfl⟩ := trodVars_none hV
  have kk0 := h0
  have lt0 : ∀ x ∈ p0, x.block < W.heap.size := by obtain ⟨m, hm⟩ := kk0; exact DataW.trod_lt m _ _ _ hm
  obtain ⟨A0, c0, a0, rfl, hc0, hr0, hq0⟩ := open_sl Try.underlying22 (by kernel_rfl) opens42 (hval 0 22 v0 rfl rfl) h0
  obtain ⟨a1, rfl, rfl, rfl, y1⟩ := open_string Try.underlying9 (hval 1 9 v1 rfl rfl) h1
  have w1 : a1.size ≤ 140737488351232 := by
    have z := sized_string hsz (j := 1) (t := 9) rfl rfl
    rw [Array.length_toList] at z
    exact z
  obtain ⟨a2, rfl, rfl, rfl, y2⟩ := open_string Try.underlying9 (hval 2 9 v2 rfl rfl) h2
  have w2 : a2.size ≤ 140737488351232 := by
    have z := sized_string hsz (j := 2) (t := 9) rfl rfl
    rw [Array.length_toList] at z
    exact z
  obtain ⟨k, hp⟩ := PureFnExactDropBlock.pure a0 a1 a2 hq0 w1 w2
  clear hA0 hval0 hsz0 hsz
  refine (laws_FnExactDropBlock.calls k A0 c0 a0 a1 a2 true W hr0 hc0 hsh hp).mono fun e W' ⟨he, bel0⟩ => ?_
  have bel : Below W.heap.size W W' := bel0
  subst he
  exact ⟨_, rfl, _, _, _, [], _, [], hW', trodAll_mk1 (shut_bool Try.underlying4 _), (trodAll_cons_mk (Below.trod laidOut (by kernel_rfl) (of_decide_eq_true (by kernel_rfl)) kk0 bel lt0) (trodAll_cons_mk (shut_string Try.underlying9 y1) (trodAll_cons_mk (shut_string Try.underlying9 y2) trodAll_mk0))), rfl, bel.frame _, fun h => by cases h⟩
theorem over : Rows.fnExactDropBlockRow.holds Try.pinned (OpenSpec.ofChange Rows.fnExactDropBlockSpec) :=
  OpenClaim.holds_of_wide 6 Try.f6 rfl rfl rfl rfl rfl rfl rfl ⟨rfl, rfl, rfl, rfl, rfl⟩ rfl rfl rfl rfl rfl (by kernel_rfl) Try.func6 (by kernel_rfl)
    (of_decide_eq_true (by kernel_rfl)) (by unfold Func.isWrapper; first | (rw [if_pos (by decide +kernel)]; kernel_rfl) | (rw [if_neg (by decide +kernel)]; exact ⟨rfl, rfl⟩))
    (fun os started H enc _ => lifted os started H enc)
end Go.Proofs.Ytnabckhhnknlaaa.RowFnExactDropBlock
namespace Go.Proofs.Ytnabckhhnknlaaa
theorem fnExactDropBlock_holds : Rows.FnExactDropBlockSaid := RowFnExactDropBlock.over
end Go.Proofs.Ytnabckhhnknlaaa
end
