/- The law FnExactThroughPipe: part 8 of its texts, joined (wip/pack.py). -/
import Derived.Test.YtahadhldokhifaaKFnExactThroughPipea
import Derived.Test.YtahadhldokhifaaKFnExactThroughPipeb
import Derived.Test.YtahadhldokhifaaKFnExactThroughPipec
import Derived.Test.YtahadhldokhifaaKFnExactThroughPiped
import Derived.Test.YtahadhldokhifaaKFnExactThroughPipee
import Derived.Test.YtahadhldokhifaaKFnExactThroughPipef
import Derived.Test.YtahadhldokhifaaKFnExactThroughPipeg
import Derived.Test.YtahadhldokhifaaKFnExactThroughPipeh
import Derived.Test.YtahadhldokhifaaRows
import Derived.WalkKit
import Derived.ProofKit
import Derived.OpenShut
import Derived.ShutString
import Derived.ChangeOld
import Derived.Below
import Derived.SizedLaws

section
namespace Go.Proofs.Ytahadhldokhifaa.PThru2
open Go.RowKit Go.Proofs.YtahadhldokhifaaW.PrintWords Go.Proofs.YtahadhldokhifaaW.PrintMore Go.Proofs.Ytahadhldokhifaa.XP Go.Proofs.Ytahadhldokhifaa.EvK Go.Proofs.Ytahadhldokhifaa.PBasics Go.Proofs.Ytahadhldokhifaa.PThru
set_option linter.unusedVariables false
set_option linter.unusedSimpArgs false
theorem gt_at (l : List S43) (i : Nat) (h : i < l.length) : gt l i = l[i] := by
  unfold gt
  simp [List.getD_eq_getElem?_getD, List.getElem?_eq_getElem h]
theorem gt_drop (l : List S43) (a j : Nat) : gt (l.drop a) j = gt l (a + j) := by
  unfold gt
  simp [List.getD_eq_getElem?_getD, List.getElem?_drop]
theorem take_next {α : Type} (l : List α) (i : Nat) (h : i < l.length) : l.take (i + 1) = l.take i ++ [l[i]] := List.take_succ_eq_append_getElem h
def E (l w q g : Int) (s : S43) : S43 := ⟨s.f0, endOf l w q g s.f1⟩
def D (d : Int) (s : S43) : S43 := ⟨wrap64 (s.f0 + d), s.f1⟩
theorem set_map {F : S43 → S43} (l : List S43) (i : Nat) (h : i < l.length) : ((l.take i).map F ++ l.drop i).set i (F l[i]) = (l.take (i + 1)).map F ++ l.drop (i + 1) := by
  rw [List.set_append_right _ _ (by simp; omega)]
  have e : i - ((l.take i).map F).length = 0 := by simp; omega
  rw [e, List.drop_eq_getElem_cons h, List.set_cons_zero, take_next l i h, List.map_append]
  simp
section
variable {l d w q g : Int} (hl : 1 ≤ l ∧ l ≤ 10000) (hw : 0 ≤ w ∧ w ≤ 5000) (hq : -100000 ≤ q ∧ q ≤ 100000) (h0 : q ≠ 0) (hg : -5000 ≤ g ∧ g ≤ 20000) (s : ByteArray) (f t : Int)
include hl hw hq h0 hg
theorem cool_ev (xs : List S43) (hx : ∀ x ∈ xs, -5000 ≤ x.f1 ∧ x.f1 ≤ 20000) (hn : xs.length ≤ 1048576) : Ev (fun k => impl_ThroughPipe.l0 s f t l d w q g k xs 0) (xs.map (E l w q g)) := by
  apply EvP.eq
  refine for_evp (L := fun k (x : List S43) i => impl_ThroughPipe.l0 s f t l d w q g k x i) xs.length (fun i x => x = (xs.take i).map (E l w q g) ++ xs.drop i) ?_ ?_ xs (by simp)
  · rintro i x hi rfl K
    have hlen : ((xs.take i).map (E l w q g) ++ xs.drop i).length = xs.length := by simp; omega
    have hr : rd_T43 ((xs.take i).map (E l w q g) ++ xs.drop i) (i : Int) = xs[i] := by
      rw [rdg, gt_at _ _ (by omega), List.getElem_append_right (by simp; omega)]
      simp only [List.length_map, List.length_take, List.getElem_drop]
      congr 1
      omega
    refine EvP.step (fun k => impl_ThroughPipe.l0.eq_2 s f t l d w q g _ _ k) ?_
    simp only [hlen, hr, if_pos (show (i : Int) < (xs.length : Int) by omega), if_pos (show (0 : Int) ≤ (i : Int) by omega), endI hl hw hq h0 (hx _ (List.getElem_mem hi)) hg s f t, Option.bind_some, w64 (show -9223372036854775808 ≤ (i : Int) + 1 by omega) (by omega), Int.toNat_natCast]
    exact K _ (set_map (F := E l w q g) xs i hi)
  · rintro x rfl
    refine EvP.step (fun k => impl_ThroughPipe.l0.eq_2 s f t l d w q g _ _ k) ?_
    have hlen : ((xs.take xs.length).map (E l w q g) ++ xs.drop xs.length).length = xs.length := by simp
    simp only [hlen, if_neg (show ¬ (xs.length : Int) < (xs.length : Int) by omega)]
    refine EvP.now ?_
    simp
theorem through_ev (b : S43) (xs : List S43) (hx : ∀ x ∈ xs, -5000 ≤ x.f1 ∧ x.f1 ≤ 20000) (hn : xs.length ≤ 1048576) : Ev (fun k => spec_l09Through.l0 k q g [] (b :: xs) 0 s f t l d w) (b :: xs.map (E l w q g)) := by
  apply EvP.eq
  refine for_evp (L := fun k (x : List S43) i => spec_l09Through.l0 k q g x (b :: xs) i s f t l d w) (xs.length + 1) (fun i x => x = (b :: xs.map (E l w q g)).take i) ?_ ?_ [] (by simp)
  · rintro i x hi rfl K
    have hlen : ((b :: xs.map (E l w q g)).take i).length ≤ 1048577 := by simp; omega
    refine EvP.step (fun k => spec_l09Through.l0.eq_2 _ _ _ _ _ _ _ _ _ _ _ k) ?_
    simp only [rdg, if_pos (show (i : Int) < ((b :: xs).length : Int) by simp; omega), if_pos (show (0 : Int) ≤ (i : Int) by omega), if_pos (show ((b :: xs.map (E l w q g)).take i).length < 8796093022208 by omega), w64 (show -9223372036854775808 ≤ (i : Int) + 1 by omega) (by omega)]
    cases i with
    | zero =>
      simp only [show ((0 : Nat) : Int) = 0 from rfl, gt_iff_lt, Int.lt_irrefl, if_false]
      refine K _ ?_
      simp [gt]
    | succ i =>
      have hi2 : i < xs.length := by omega
      have e : gt (b :: xs) (i + 1) = xs[i] := by rw [gt_at _ _ (by simp; omega)]; simp
      simp only [if_pos (show ((i + 1 : Nat) : Int) > 0 by omega), e, endS hl hw hq h0 (hx _ (List.getElem_mem hi2)) hg s f t, Option.bind_some]
      refine K _ ?_
      rw [List.take_succ_eq_append_getElem (i := i + 1) (by simp; omega)]
      simp [E]
  · rintro x rfl
    refine EvP.step (fun k => spec_l09Through.l0.eq_2 _ _ _ _ _ _ _ _ _ _ _ k) ?_
    simp only [if_neg (show ¬ ((xs.length + 1 : Nat) : Int) < ((b :: xs).length : Int) by simp)]
    refine EvP.now ?_
    rw [List.take_of_length_le (by simp)]
end
theorem delayed_ev (xs : List S43) (d b : Int) (hd : d ≠ 0) (hn : xs.length ≤ 1048576) : Ev (fun k => impl_delayed.f k xs d b) (⟨0, b⟩ :: xs.map (D d)) := by
  unfold impl_delayed.f
  simp only [if_neg hd]
  apply EvP.eq
  refine for_evp (L := fun k (x : List S43) i => impl_delayed.l0 k d x xs (xs.length : Int) i) xs.length (fun i x => x = ⟨0, b⟩ :: (xs.take i).map (D d)) ?_ ?_ _ (by simp)
  · rintro i x hi rfl K
    have hlen : ((⟨0, b⟩ : S43) :: (xs.take i).map (D d)).length ≤ 1048577 := by simp; omega
    refine EvP.step (fun k => impl_delayed.l0.eq_2 _ _ _ _ _ k) ?_
    simp only [rdg, if_pos (show (i : Int) < (xs.length : Int) by omega), if_pos (show (0 : Int) ≤ (i : Int) by omega), if_pos (show ((⟨0, b⟩ : S43) :: (xs.take i).map (D d)).length < 8796093022208 by omega), w64 (show -9223372036854775808 ≤ (i : Int) + 1 by omega) (by omega)]
    refine K _ ?_
    rw [take_next xs i hi, List.map_append, gt_at xs i hi]
    simp [D]
  · rintro x rfl
    refine EvP.step (fun k => impl_delayed.l0.eq_2 _ _ _ _ _ k) ?_
    simp only [if_neg (show ¬ (xs.length : Int) < (xs.length : Int) by omega)]
    refine EvP.now ?_
    rw [List.take_length]
theorem late_ev (xs : List S43) (d b : Int) (hd : 0 < d) (hn : xs.length ≤ 1048576) : Ev (fun k => spec_l09Late.f k xs d b) (⟨0, b⟩ :: xs.map (D d)) := by
  unfold spec_l09Late.f
  simp only [Option.bind_some, if_pos (show d > 0 by omega), List.length_nil, if_pos (show (0 : Nat) < 8796093022208 by omega), List.nil_append]
  refine Ev.step (fun k => spec_l09Late.j0.eq_2 _ _ _ k) ?_
  apply EvP.eq
  refine for_evp (L := fun k (x : List S43) i => spec_l09Late.l0 k xs d x i) xs.length (fun i x => x = ⟨0, b⟩ :: (xs.take i).map (D d)) ?_ ?_ _ (by simp)
  · rintro i x hi rfl K
    have hlen : ((⟨0, b⟩ : S43) :: (xs.take i).map (D d)).length ≤ 1048577 := by simp; omega
    refine EvP.step (fun k => spec_l09Late.l0.eq_2 _ _ _ _ k) ?_
    simp only [rdg, if_pos (show (i : Int) < (xs.length : Int) by omega), if_pos (show (0 : Int) ≤ (i : Int) by omega), if_pos (show ((⟨0, b⟩ : S43) :: (xs.take i).map (D d)).length < 8796093022208 by omega), w64 (show -9223372036854775808 ≤ (i : Int) + 1 by omega) (by omega)]
    refine K _ ?_
    rw [take_next xs i hi, List.map_append, gt_at xs i hi]
    simp [D]
  · rintro x rfl
    refine EvP.step (fun k => spec_l09Late.l0.eq_2 _ _ _ _ k) ?_
    simp only [if_neg (show ¬ (xs.length : Int) < (xs.length : Int) by omega)]
    refine EvP.now ?_
    rw [List.take_length]
def keepAt (l : List S43) (i : Nat) : Bool := decide (i = 0) || !((gt l i).f1 == (gt l (i - 1)).f1)
def compN (l : List S43) : Nat → List S43
  | 0 => []
  | n + 1 => if keepAt l n = true then compN l n ++ [gt l n] else compN l n
theorem compN_len (l : List S43) : ∀ n, (compN l n).length ≤ n
  | 0 => by simp [compN]
  | n + 1 => by
    have := compN_len l n
    unfold compN
    split
    · simp; omega
    · omega
theorem compN_last (l : List S43) : ∀ n, 1 ≤ (compN l (n + 1)).length ∧ (gt (compN l (n + 1)) ((compN l (n + 1)).length - 1)).f1 = (gt l n).f1
  | 0 => by simp [compN, keepAt, gt]
  | n + 1 => by
    obtain ⟨h1, h2⟩ := compN_last l n
    rw [show compN l (n + 1 + 1) = if keepAt l (n + 1) = true then compN l (n + 1) ++ [gt l (n + 1)] else compN l (n + 1) from rfl]
    by_cases hk : keepAt l (n + 1) = true
    · rw [if_pos hk]
      refine ⟨by simp, ?_⟩
      rw [gt_at _ _ (by simp)]
      simp
    · rw [if_neg hk]
      refine ⟨h1, ?_⟩
      rw [h2]
      have : (gt l (n + 1)).f1 = (gt l n).f1 := by
        simpa [keepAt] using hk
      exact this.symm
theorem compN_take (l : List S43) : ∀ n, n ≤ l.length → (∀ i, i < n → keepAt l i = true) → compN l n = l.take n
  | 0, _, _ => by simp [compN]
  | n + 1, h, hk => by
    rw [show compN l (n + 1) = if keepAt l n = true then compN l n ++ [gt l n] else compN l n from rfl, if_pos (hk n (by omega)), compN_take l n (by omega) (fun i hi => hk i (by omega)), take_next l n (by omega), gt_at l n (by omega)]
theorem trim_ev (l : List S43) (hn : l.length ≤ 1048577) : Ev (fun k => spec_l09Trim.f k l) (compN l l.length) := by
  unfold spec_l09Trim.f
  apply EvP.eq
  refine for_evp (L := fun k (x : List S43) i => spec_l09Trim.l0 k l x i) l.length (fun i x => x = compN l i) ?_ ?_ [] rfl
  · rintro i x hi rfl K
    have hlen := compN_len l i
    have hs : compN l (i + 1) = if keepAt l i = true then compN l i ++ [gt l i] else compN l i := rfl
    refine EvP.step (fun k => spec_l09Trim.l0.eq_2 _ _ _ k) ?_
    simp only [rdg, if_pos (show (i : Int) < (l.length : Int) by omega), if_pos (show (0 : Int) ≤ (i : Int) by omega), if_pos (show (compN l i).length < 8796093022208 by omega), w64 (show -9223372036854775808 ≤ (i : Int) + 1 by omega) (by omega)]
    cases i with
    | zero =>
      simp only [if_pos (show ((compN l 0).length : Int) = 0 by simp [compN])]
      refine K _ ?_
      rw [hs, if_pos (by simp [keepAt])]
    | succ n =>
      obtain ⟨h1, h2⟩ := compN_last l n
      have wd : wrap64 (((compN l (n + 1)).length : Int) - 1) = (((compN l (n + 1)).length - 1 : Nat) : Int) := by rw [w64 (by omega) (by omega)]; omega
      simp only [if_neg (show ¬ ((compN l (n + 1)).length : Int) = 0 by omega), wd, if_pos (show (0 : Int) ≤ (((compN l (n + 1)).length - 1 : Nat) : Int) by omega), if_pos (show (((compN l (n + 1)).length - 1 : Nat) : Int) < ((compN l (n + 1)).length : Int) by omega), rdg, h2]
      by_cases hk : (gt l n).f1 = (gt l (n + 1)).f1
      · simp only [if_pos hk]
        refine K _ ?_
        rw [hs, if_neg (by simp [keepAt, hk])]
      · simp only [if_neg hk]
        refine K _ ?_
        rw [hs, if_pos (by simp [keepAt]; exact fun e => hk e.symm)]
  · rintro x rfl
    refine EvP.step (fun k => spec_l09Trim.l0.eq_2 _ _ _ k) ?_
    simp only [if_neg (show ¬ (l.length : Int) < (l.length : Int) by omega)]
    exact EvP.now rfl
theorem comp1_ev (l : List S43) (a : Nat) (ha : 1 ≤ a) (hal : a ≤ l.length) (hn : l.length ≤ 1048577) : ∀ (e x7 : Nat) (x0 : List S43) (b : Nat), x7 + e = (l.drop a).length → 1 ≤ x7 → x0.length = l.length → x0.take b = compN l (a + x7) → b = (compN l (a + x7)).length →
    Ev (fun k => slices_CompactFunc_StepS.l1 k x0 b (l.drop a) x7) (compN l l.length) := by
  intro e
  induction e with
  | zero =>
    intro x7 x0 b hx h1 h2 h3 h4
    have hd : (l.drop a).length = l.length - a := List.length_drop
    have hb := compN_len l (a + x7)
    have e1 : a + x7 = l.length := by omega
    refine Ev.step (fun k => slices_CompactFunc_StepS.l1.eq_2 _ _ _ _ k) ?_
    simp only [if_neg (show ¬ (x7 : Int) < ((l.drop a).length : Int) by omega), if_pos (show (0 : Int) ≤ (b : Int) by omega), if_pos (show (b : Int) ≤ (x0.length : Int) by omega), Int.toNat_natCast]
    rw [show (x0.take b ++ List.replicate (x0.length - b) z43).take b = x0.take b from by rw [List.take_append_of_le_length (by simp; omega), List.take_take, Nat.min_self], h3, e1]
    exact Ev.now _
  | succ e ih =>
    intro x7 x0 b hx h1 h2 h3 h4
    have hd : (l.drop a).length = l.length - a := List.length_drop
    have hb := compN_len l (a + x7)
    have wd : wrap64 ((x7 : Int) - 1) = ((x7 - 1 : Nat) : Int) := by rw [w64 (by omega) (by omega)]; omega
    have hs : compN l (a + x7 + 1) = if keepAt l (a + x7) = true then compN l (a + x7) ++ [gt l (a + x7)] else compN l (a + x7) := rfl
    refine Ev.step (fun k => slices_CompactFunc_StepS.l1.eq_2 _ _ _ _ k) ?_
    unfold impl_trimmedWave_c1.f
    simp only [if_pos (show (x7 : Int) < ((l.drop a).length : Int) by omega), if_pos (show (0 : Int) ≤ (x7 : Int) by omega), wd, if_pos (show (0 : Int) ≤ ((x7 - 1 : Nat) : Int) by omega), if_pos (show ((x7 - 1 : Nat) : Int) < ((l.drop a).length : Int) by omega), rdg, gt_drop, Option.bind_some, if_pos (show (0 : Int) ≤ (b : Int) by omega), if_pos (show (b : Int) < (x0.length : Int) by omega), Int.toNat_natCast, w64 (show -9223372036854775808 ≤ (x7 : Int) + 1 by omega) (by omega), w64 (show -9223372036854775808 ≤ (b : Int) + 1 by omega) (by omega)]
    rw [show a + (x7 - 1) = a + x7 - 1 by omega]
    by_cases hk : ((gt l (a + x7)).f1 == (gt l (a + x7 - 1)).f1) = true
    · simp only [hk, if_true]
      have hkp : keepAt l (a + x7) = false := by
        unfold keepAt
        rw [hk, decide_eq_false (by omega)]
        rfl
      rw [hkp] at hs
      simp only [Bool.false_eq_true, if_false] at hs
      exact ih (x7 + 1) x0 b (by omega) (by omega) h2 (by rw [← Nat.add_assoc, hs]; exact h3) (by rw [← Nat.add_assoc, hs]; exact h4)
    · simp only [if_neg hk]
      have hkp : keepAt l (a + x7) = true := by
        unfold keepAt
        rw [Bool.eq_false_iff.2 hk]
        simp
      rw [hkp] at hs
      simp only [if_true] at hs
      exact ih (x7 + 1) (x0.set b (gt l (a + x7))) (b + 1) (by omega) (by omega) (by rw [List.length_set]; exact h2) (by
        rw [← Nat.add_assoc, hs, ← h3, List.take_succ_eq_append_getElem (by rw [List.length_set]; omega), List.getElem_set_self, List.take_set_of_le (Nat.le_refl _)]) (by rw [← Nat.add_assoc, hs, List.length_append, ← h4]; rfl)
theorem comp_ev (l : List S43) (hn : l.length ≤ 1048577) : Ev (fun k => slices_CompactFunc_StepS.f k l) (compN l l.length) := by
  unfold slices_CompactFunc_StepS.f
  by_cases h2 : (l.length : Int) < 2
  · simp only [if_pos h2]
    rw [compN_take l l.length (Nat.le_refl _) (fun i hi => by simp [keepAt]; omega), List.take_length]
    exact Ev.now _
  simp only [if_neg h2]
  have K : ∀ e i : Nat, i + e = l.length → 1 ≤ i → (∀ j, j < i → keepAt l j = true) → Ev (fun k => slices_CompactFunc_StepS.l0 k l (i : Int)) (compN l l.length) := by
    intro e
    induction e with
    | zero =>
      intro i hi h1 hk
      refine Ev.step (fun k => slices_CompactFunc_StepS.l0.eq_2 _ _ k) ?_
      simp only [if_neg (show ¬ (i : Int) < (l.length : Int) by omega)]
      rw [compN_take l l.length (Nat.le_refl _) (fun j hj => hk j (by omega)), List.take_length]
      exact Ev.now _
    | succ e ih =>
      intro i hi h1 hk
      have wd : wrap64 ((i : Int) - 1) = ((i - 1 : Nat) : Int) := by rw [w64 (by omega) (by omega)]; omega
      refine Ev.step (fun k => slices_CompactFunc_StepS.l0.eq_2 _ _ k) ?_
      unfold impl_trimmedWave_c1.f
      simp only [if_pos (show (i : Int) < (l.length : Int) by omega), if_pos (show (0 : Int) ≤ (i : Int) by omega), wd, if_pos (show (0 : Int) ≤ ((i - 1 : Nat) : Int) by omega), if_pos (show ((i - 1 : Nat) : Int) < (l.length : Int) by omega), rdg, Option.bind_some, if_pos (show (i : Int) ≤ (l.length : Int) by omega), Int.toNat_natCast, w64 (show -9223372036854775808 ≤ (i : Int) + 1 by omega) (by omega)]
      by_cases hq : ((gt l i).f1 == (gt l (i - 1)).f1) = true
      · simp only [hq, if_true]
        have hkp : keepAt l i = false := by
          unfold keepAt
          rw [hq, decide_eq_false (by omega)]
          rfl
        have hs : compN l (i + 1) = compN l i := by
          rw [show compN l (i + 1) = if keepAt l i = true then compN l i ++ [gt l i] else compN l i from rfl, hkp]
          simp
        have ht := compN_take l i (by omega) hk
        exact comp1_ev l i h1 (by omega) hn (l.length - i - 1) 1 l i (by rw [List.length_drop]; omega) (Nat.le_refl _) rfl (by rw [hs, ht]) (by rw [hs, ht, List.length_take]; omega)
      · simp only [if_neg hq]
        exact ih (i + 1) (by omega) (by omega) (fun j hj => by
          by_cases e : j = i
          · subst e
            unfold keepAt
            rw [Bool.eq_false_iff.2 hq]
            simp
          · exact hk j (by omega))
  exact K (l.length - 1) 1 (by omega) (Nat.le_refl _) (fun j hj => by simp [keepAt]; omega)
def timesB (l : List S43) : Bool := l.all fun s => timeB s.f0
def done (y : List S43) : List S43 × Int := if timesB y = true then (if (y.length : Int) > 24 then ([], 5) else (y, 0)) else ([], 6)
theorem specDone_ev (l : List S43) (hn : l.length ≤ 1048577) : Ev (fun k => spec_l09Done.f k l) (done (compN l l.length)) := by
  unfold spec_l09Done.f
  refine Ev.bind (trim_ev l hn) ?_
  have hlen := compN_len l l.length
  generalize compN l l.length = y at *
  unfold done timesB
  refine all_to (L := fun k i => spec_l09Done.l0 k y i) y (fun s => timeB s.f0) _ ([], 6) ?_ ?_ ?_
  · intro i hi hp P K
    refine EvP.step (fun k => spec_l09Done.l0.eq_2 _ _ k) ?_
    rw [← gt_at y i hi] at hp
    simp only [rdg, if_pos (show (i : Int) < (y.length : Int) by omega), if_pos (show (0 : Int) ≤ (i : Int) by omega), timeS, hp, Option.bind_some, if_true, w64 (show -9223372036854775808 ≤ (i : Int) + 1 by omega) (by omega)]
    exact K
  · intro i hi hp
    refine Ev.step (fun k => spec_l09Done.l0.eq_2 _ _ k) ?_
    rw [← gt_at y i hi] at hp
    simp only [rdg, if_pos (show (i : Int) < (y.length : Int) by omega), if_pos (show (0 : Int) ≤ (i : Int) by omega), timeS, hp, Option.bind_some, Bool.false_eq_true, if_false]
    exact Ev.now _
  · intro _
    refine Ev.step (fun k => spec_l09Done.l0.eq_2 _ _ k) ?_
    simp only [if_neg (show ¬ (y.length : Int) < (y.length : Int) by omega)]
    split <;> exact Ev.now _
theorem contains_ev (y : List S43) (hn : y.length ≤ 1048577) : Ev (fun k => slices_ContainsFunc_StepS.f k y) (!(timesB y)) := by
  unfold slices_ContainsFunc_StepS.f slices_IndexFunc_StepS.f
  have hp : EvP (fun k => slices_IndexFunc_StepS.l0 k y (y.length : Int) 0) (fun r => decide (r ≥ 0) = !(timesB y)) := by
    refine for_evp (L := fun k (_ : Unit) i => slices_IndexFunc_StepS.l0 k y (y.length : Int) i) y.length (fun i _ => ∀ x ∈ y.take i, timeB x.f0 = true) ?_ ?_ () (by simp)
    · intro i _ hi hs K
      refine EvP.step (fun k => slices_IndexFunc_StepS.l0.eq_2 _ _ _ k) ?_
      unfold impl_trimmedWave_c2.f
      simp only [rdg, if_pos (show (i : Int) < (y.length : Int) by omega), if_pos (show (0 : Int) ≤ (i : Int) by omega), timeI, Option.bind_some]
      rw [gt_at y i hi]
      cases ht : timeB y[i].f0 with
      | true =>
        simp only [Bool.not_true, Bool.false_eq_true, if_false, w64 (show -9223372036854775808 ≤ (i : Int) + 1 by omega) (by omega)]
        refine K () ?_
        intro x hx
        rw [take_next y i hi, List.mem_append] at hx
        rcases hx with hx | hx
        · exact hs x hx
        · rw [List.mem_singleton.1 hx]; exact ht
      | false =>
        simp only [Bool.not_false, if_true]
        refine EvP.now ?_
        rw [decide_eq_true (by omega)]
        have : timesB y = false := by
          unfold timesB
          rw [List.all_eq_false]
          exact ⟨y[i], List.getElem_mem hi, by simp [ht]⟩
        rw [this]
        rfl
    · intro _ hs
      refine EvP.step (fun k => slices_IndexFunc_StepS.l0.eq_2 _ _ _ k) ?_
      simp only [if_neg (show ¬ (y.length : Int) < (y.length : Int) by omega)]
      refine EvP.now ?_
      have : timesB y = true := by
        unfold timesB
        rw [List.all_eq_true]
        simpa using hs
      rw [this]
      decide
  apply EvP.eq
  refine EvP.bindP hp ?_
  intro r hr
  exact EvP.now hr
theorem implDone_ev (l : List S43) (hn : l.length ≤ 1048577) : Ev (fun k => impl_trimmedWave.f k l) (done (compN l l.length)) := by
  unfold impl_trimmedWave.f
  have hc : slices_Clone_StepS.f l = some l := by
    unfold slices_Clone_StepS.f
    simp only [Option.bind_some, List.length_nil, List.nil_append, if_pos (show 0 + l.length < 8796093022208 by omega)]
  simp only [hc, Option.bind_some]
  refine Ev.bind (comp_ev l hn) ?_
  have hlen := compN_len l l.length
  generalize compN l l.length = y at *
  refine Ev.bind (contains_ev y (by omega)) ?_
  unfold done
  cases timesB y with
  | true =>
    simp only [Bool.not_true, Bool.false_eq_true, if_false, if_true]
    split <;> exact Ev.now _
  | false =>
    simp only [Bool.not_false, if_true, Bool.false_eq_true, if_false]
    exact Ev.now _
theorem done_len (y : List S43) : (done y).1.length ≤ 24 := by
  unfold done
  split
  · split
    · simp
    · show y.length ≤ 24; omega
  · simp
def ans (l d w q g b : Int) (xs : List S43) : List S43 × Int := let y : List S43 := ⟨0, b⟩ :: (xs.map (E l w q g)).map (D (dly l d q)); done (compN y y.length)
def thru (s : ByteArray) (f t l d w q : Int) (xs : List S43) (g b : Int) : List S43 × Int :=
  if pipeOkV s f t l d w = true ∧ waveB xs = true then (if inR q (-100000) 100000 = true ∧ degB g = true ∧ degB b = true then (if q = 0 then ([], 6) else ans l d w q g b xs) else ([], 2)) else ([], 1)
theorem wave_degs {xs : List S43} (h : waveB xs = true) : ∀ x ∈ xs, -5000 ≤ x.f1 ∧ x.f1 ≤ 20000 := by
  unfold waveB at h
  rw [Bool.and_eq_true, List.all_eq_true] at h
  intro x hx
  obtain ⟨i, hi, rfl⟩ := List.getElem_of_mem hx
  have := h.1 i (List.mem_range.2 hi)
  unfold stepB at this
  simp only [Bool.and_eq_true] at this
  rw [← gt_at xs i hi]
  exact inR_iff.1 this.2.1
theorem ED (l w q g d : Int) (xs : List S43) : (xs.map (E l w q g)).map (D d) = (xs.map (D d)).map (E l w q g) := by
  simp only [List.map_map]
  rfl
theorem thru_len (s : ByteArray) (f t l d w q : Int) (xs : List S43) (g b : Int) : (thru s f t l d w q xs g b).1.length ≤ 24 := by
  unfold thru ans
  split
  · split
    · split
      · simp
      · exact done_len _
    · simp
  · simp
theorem impl_ev (s : ByteArray) (f t l d w q : Int) (xs : List S43) (g b : Int) (hs : s.size ≤ 1048576) (hn : xs.length ≤ 1048576) : Ev (fun k => impl_ThroughPipe.f k s f t l d w q xs g b) (thru s f t l d w q xs g b) := by
  unfold impl_ThroughPipe.f thru
  refine Ev.bind (validPipeV_ev s f t l d w hs) ?_
  cases h1 : pipeOkV s f t l d w with
  | false => exact Ev.now _
  | true =>
    simp only [if_true, true_and]
    refine Ev.bind (implWave_ev xs hn) ?_
    cases h2 : waveB xs with
    | false => exact Ev.now _
    | true =>
      have hfl : impl_flowOk.f q = some (inR q (-100000) 100000) := by unfold impl_flowOk.f; rw [within_eq]; rfl
      simp only [if_true, hfl, degI, Option.bind_some]
      cases h3 : inR q (-100000) 100000 with
      | false => exact Ev.now _
      | true =>
        simp only [if_true, true_and]
        cases h4 : degB g with
        | false => exact Ev.now _
        | true =>
          simp only [if_true, true_and]
          cases h5 : degB b with
          | false => exact Ev.now _
          | true =>
            simp only [if_true]
            by_cases h0 : q = 0
            · simp only [if_pos h0]; exact Ev.now _
            simp only [if_neg h0]
            obtain ⟨b1, b2, b3⟩ := ok_b h1
            have hq := inR_iff.1 h3
            have hg := inR_iff.1 h4
            have hd := dly_pos b1 b2 hq h0
            have hc : slices_Clone_StepS.f xs = some xs := by
              unfold slices_Clone_StepS.f
              simp only [Option.bind_some, List.length_nil, List.nil_append, if_pos (show 0 + xs.length < 8796093022208 by omega)]
            simp only [hc, Option.bind_some, delayI b1 b2 hq h0 s f t w]
            refine Ev.bind (cool_ev b1 b3 hq h0 hg s f t xs (wave_degs h2) hn) ?_
            refine Ev.bind (delayed_ev _ _ b (by omega) (by simp; omega)) ?_
            exact implDone_ev _ (by simp; omega)
theorem spec_ev (s : ByteArray) (f t l d w q : Int) (xs : List S43) (g b : Int) (hs : s.size ≤ 1048576) (hn : xs.length ≤ 1048576) : Ev (fun k => spec_ThroughPipe.f k s f t l d w q xs g b) (thru s f t l d w q xs g b) := by
  unfold spec_ThroughPipe.f thru
  have bad : Ev (fun k => spec_ThroughPipe.j0 k q xs g b true s f t l d w) ([], 1) := by
    refine Ev.step (fun k => spec_ThroughPipe.j0.eq_2 _ _ _ _ _ _ _ _ _ _ _ k) ?_
    simp only [if_true]
    exact Ev.now _
  have bad2 : Ev (fun k => spec_ThroughPipe.j1 k q xs g b true s f t l d w) ([], 2) := by
    refine Ev.step (fun k => spec_ThroughPipe.j1.eq_2 _ _ _ _ _ _ _ _ _ _ _ k) ?_
    simp only [if_true]
    exact Ev.now _
  refine Ev.bind (l03OkV_ev s f t l d w hs) ?_
  cases h1 : pipeOkV s f t l d w with
  | false => simpa using bad
  | true =>
    simp only [if_true, true_and]
    refine Ev.bind (specWave_ev xs hn) ?_
    cases h2 : waveB xs with
    | false => simpa using bad
    | true =>
      have hfl : spec_l03Flow.f q = some (inR q (-100000) 100000) := by unfold spec_l03Flow.f; rw [in_eq]; rfl
      simp only [Bool.not_true]
      refine Ev.step (fun k => spec_ThroughPipe.j0.eq_2 _ _ _ _ _ _ _ _ _ _ _ k) ?_
      simp only [Bool.false_eq_true, if_false, if_true, hfl, degS, Option.bind_some]
      cases h3 : inR q (-100000) 100000 with
      | false => simpa using bad2
      | true =>
        simp only [if_true, true_and]
        cases h4 : degB g with
        | false => simpa using bad2
        | true =>
          simp only [if_true, true_and]
          cases h5 : degB b with
          | false => simpa using bad2
          | true =>
            simp only [Bool.not_true, if_true]
            refine Ev.step (fun k => spec_ThroughPipe.j1.eq_2 _ _ _ _ _ _ _ _ _ _ _ k) ?_
            simp only [Bool.false_eq_true, if_false]
            by_cases h0 : q = 0
            · simp only [if_pos h0]; exact Ev.now _
            simp only [if_neg h0]
            obtain ⟨b1, b2, b3⟩ := ok_b h1
            have hq := inR_iff.1 h3
            have hg := inR_iff.1 h4
            have hd := dly_pos b1 b2 hq h0
            have ht : Ev (fun k => spec_l09Through.f k s f t l d w q xs g b) (⟨0, b⟩ :: (xs.map (E l w q g)).map (D (dly l d q))) := by
              unfold spec_l09Through.f
              simp only [delayS b1 b2 hq h0 s f t w, Option.bind_some]
              refine Ev.bind (late_ev xs _ b (by omega) hn) ?_
              rw [ED]
              exact through_ev b1 b3 hq h0 hg s f t _ _ (fun x hx => by
                obtain ⟨y, hy, rfl⟩ := List.mem_map.1 hx
                exact wave_degs h2 y hy) (by simpa using hn)
            refine Ev.bind ht ?_
            refine Ev.bind (specDone_ev _ (by simp; omega)) ?_
            exact Ev.now _
end Go.Proofs.Ytahadhldokhifaa.PThru2
end

section
namespace Go.Proofs.Ytahadhldokhifaa.SP
open Go.RowKit Go.Proofs.YtahadhldokhifaaW.PrintWords Go.Proofs.Ytahadhldokhifaa.XP Go.Proofs.Ytahadhldokhifaa.EvK
set_option linter.unusedVariables false
set_option linter.unusedSimpArgs false
theorem szPipe_val (x : S23) (left : Int) (h0 : 0 ≤ left) (h1 : left ≤ 1048576) (hq : Q23 x) : ∃ t, laws_szPipe.f x.f0 x.f1 x.f2 x.f3 x.f4 x.f5 left = some t ∧ t ≤ left ∧ (0 ≤ t → (x.f0.size ≤ 1048576)) := by
  unfold Q23 maxLen at hq
  unfold laws_szPipe.f
  repeat' split
  all_goals refine ⟨_, rfl, ?_, ?_⟩
  all_goals (simp only [wrap64] at *; omega)
end Go.Proofs.Ytahadhldokhifaa.SP
end

section
namespace Go.Proofs.Ytahadhldokhifaa.SP
open Go.RowKit Go.Proofs.YtahadhldokhifaaW.PrintWords Go.Proofs.Ytahadhldokhifaa.XP Go.Proofs.Ytahadhldokhifaa.EvK
set_option linter.unusedVariables false
set_option linter.unusedSimpArgs false
def toStepS_el (x : S45) : S43 := (⟨x.f0, x.f1⟩ : S43)
theorem toStepS_ev (l : List (S45)) (hl : l.length ≤ 1048576) : Ev (fun k => laws_toStepS.f k l) (l.map toStepS_el) := by
  apply EvP.eq
  unfold laws_toStepS.f
  simp only [if_pos (show (0 : Int) ≤ (l.length : Int) by omega), Int.toNat_natCast, if_pos (show l.length ≤ 17592186044416 by omega)]
  refine for_evp (L := fun k (s : List (S43)) i => laws_toStepS.l0 k l s i) l.length (fun i s => s = (l.take i).map toStepS_el ++ List.replicate (l.length - i) z43) ?_ ?_ (List.replicate l.length z43) (by simp)
  · rintro i s hi rfl K
    have e : rd_T45 l (i : Int) = l[i] := getD_at l z45 i hi
    have hlen := done_len toStepS_el l z43 i (by omega)
    refine EvP.step (fun k => laws_toStepS.l0.eq_2 _ _ _ k) ?_
    simp only [if_pos (show (i : Int) < (l.length : Int) by omega), if_pos (show (0 : Int) ≤ (i : Int) by omega), e, laws_toStep.f, Option.bind_some, hlen, w64 (show -9223372036854775808 ≤ (i : Int) + 1 by omega) (by omega), Int.toNat_natCast]
    refine K _ ?_
    show List.set _ i (toStepS_el l[i]) = _
    exact map_done toStepS_el l _ i hi
  · rintro s rfl
    refine EvP.step (fun k => laws_toStepS.l0.eq_2 _ _ _ k) ?_
    simp only [if_neg (show ¬ (l.length : Int) < (l.length : Int) by omega)]
    exact EvP.now (by simp)
end Go.Proofs.Ytahadhldokhifaa.SP
end

section
namespace Go.Proofs.Ytahadhldokhifaa.SP
open Go.RowKit Go.Proofs.YtahadhldokhifaaW.PrintWords Go.Proofs.Ytahadhldokhifaa.XP Go.Proofs.Ytahadhldokhifaa.EvK
set_option linter.unusedVariables false
set_option linter.unusedSimpArgs false
theorem eqStepS_ev (l : List (S43)) (hl : l.length ≤ 1048576) : Ev (fun k => laws_eqStepS.f k l l) true := by
  apply EvP.eq
  unfold laws_eqStepS.f
  simp only [if_true]
  refine for_evp (L := fun k (s : Unit) i => laws_eqStepS.l0 k l l i) l.length (fun i s => True) ?_ ?_ () trivial
  · rintro i s hi - K
    refine EvP.step (fun k => laws_eqStepS.l0.eq_2 _ _ _ k) ?_
    simp only [if_pos (show (i : Int) < (l.length : Int) by omega), if_pos (show (0 : Int) ≤ (i : Int) by omega), laws_eqStep.f, Option.bind_some, if_true, w64 (show -9223372036854775808 ≤ (i : Int) + 1 by omega) (by omega)]
    exact K () trivial
  · rintro s -
    refine EvP.step (fun k => laws_eqStepS.l0.eq_2 _ _ _ k) ?_
    simp only [if_neg (show ¬ (l.length : Int) < (l.length : Int) by omega)]
    exact EvP.now rfl
end Go.Proofs.Ytahadhldokhifaa.SP
end

section
namespace Go.Proofs.Ytahadhldokhifaa.SP
open Go.RowKit Go.Proofs.YtahadhldokhifaaW.PrintWords Go.Proofs.Ytahadhldokhifaa.XP Go.Proofs.Ytahadhldokhifaa.EvK
set_option linter.unusedVariables false
set_option linter.unusedSimpArgs false
theorem markStepS_ev (l : List (S43)) (c : Int) (h0 : 0 ≤ c) (h1 : c + 2 * (l.length : Int) ≤ 4611686018427387904) :
    ∃ y : List (S43), Ev (fun k => laws_markStepS.f k l c) (c + 2 * (l.length : Int), y) ∧ Ev (fun k => laws_heldStepS.f k y c) (c + 2 * (l.length : Int)) ∧ y.length = l.length := by
  let E : Nat → S43 := fun j => ⟨c + 2 * (j : Int), c + 2 * (j : Int) + 1⟩
  have hset : ∀ (i : Nat) (h : i < l.length), ((List.range i).map E ++ l.drop i).set i (E i) = (List.range (i + 1)).map E ++ l.drop (i + 1) := fun i h => set_done E l i h
  have hlen : ∀ (i : Nat), i ≤ l.length → ((List.range i).map E ++ l.drop i).length = l.length := by intro i h; simp; omega
  refine ⟨(List.range l.length).map E, EvP.eq ?_, EvP.eq ?_, by simp⟩
  · unfold laws_markStepS.f
    refine for_evp (L := fun k (s : List (S43) × Int) i => laws_markStepS.l0 k s.1 s.2 i) l.length (fun i s => s = ((List.range i).map E ++ l.drop i, c + 2 * (i : Int))) ?_ ?_ (l, c) (by simp)
    · rintro i s hi rfl K
      refine EvP.step (fun k => laws_markStepS.l0.eq_2 _ _ _ k) ?_
      simp only [hlen i (by omega), if_pos (show (i : Int) < (l.length : Int) by omega), if_pos (show (0 : Int) ≤ (i : Int) by omega), Option.bind_some, w64 (show -9223372036854775808 ≤ (i : Int) + 1 by omega) (by omega), w64 (show -9223372036854775808 ≤ c + 2 * (i : Int) + 1 by omega) (by omega), w64 (show -9223372036854775808 ≤ c + 2 * (i : Int) + 1 + 1 by omega) (by omega), Int.toNat_natCast]
      refine K (_, _) ?_
      rw [← hset i hi, Prod.mk.injEq]
      refine ⟨?_, by push_cast; omega⟩
      have g1 := hlen i (by omega)
      generalize (List.range i).map E ++ l.drop i = L at g1
      have g2 : i < L.length := by omega
      first | rfl | (simp [rd_T43, E, getD_set_self, g2])
    · rintro s rfl
      refine EvP.step (fun k => laws_markStepS.l0.eq_2 _ _ _ k) ?_
      simp only [hlen l.length (Nat.le_refl _), if_neg (show ¬ (l.length : Int) < (l.length : Int) by omega)]
      exact EvP.now (by simp)
  · unfold laws_heldStepS.f
    have hl2 : ((List.range l.length).map E).length = l.length := by simp
    refine for_evp (L := fun k (s : Int) i => laws_heldStepS.l0 k ((List.range l.length).map E) s i) l.length (fun i s => s = c + 2 * (i : Int)) ?_ ?_ c (by simp)
    · rintro i s hi rfl K
      have e : rd_T43 ((List.range l.length).map E) (i : Int) = E i := by
        rw [show rd_T43 ((List.range l.length).map E) (i : Int) = ((List.range l.length).map E)[i]'(by simpa using hi) from getD_at _ z43 i (by simpa using hi)]; simp
      refine EvP.step (fun k => laws_heldStepS.l0.eq_2 _ _ _ k) ?_
      simp only [hl2, if_pos (show (i : Int) < (l.length : Int) by omega), if_pos (show (0 : Int) ≤ (i : Int) by omega), e, E, if_true, w64 (show -9223372036854775808 ≤ (i : Int) + 1 by omega) (by omega), w64 (show -9223372036854775808 ≤ c + 2 * (i : Int) + 1 by omega) (by omega), w64 (show -9223372036854775808 ≤ c + 2 * (i : Int) + 1 + 1 by omega) (by omega)]
      exact K _ (by push_cast; omega)
    · rintro s rfl
      refine EvP.step (fun k => laws_heldStepS.l0.eq_2 _ _ _ k) ?_
      simp only [hl2, if_neg (show ¬ (l.length : Int) < (l.length : Int) by omega)]
      exact EvP.now rfl
end Go.Proofs.Ytahadhldokhifaa.SP
end

section
namespace Go.Proofs.Ytahadhldokhifaa.PureFnExactThroughPipe
open Go.RowKit Go.Proofs.YtahadhldokhifaaW.PrintWords Go.Proofs.Ytahadhldokhifaa.XP Go.Proofs.Ytahadhldokhifaa.EvK Go.Proofs.Ytahadhldokhifaa.SP Go.Proofs.Ytahadhldokhifaa.PThru2
set_option linter.unusedVariables false
set_option linter.unusedSimpArgs false
theorem szStep {l : List S45} {left : Int} (h0 : 0 ≤ left) (h1 : left ≤ 1048576) (hq : l.length ≤ maxLen) : ∃ t, laws_szStepS.f l left = some t ∧ (0 ≤ t → l.length ≤ 1048576) := by
  unfold maxLen at hq
  unfold laws_szStepS.f
  rw [w64 (by omega) (by omega)]
  by_cases h : left - (l.length : Int) < 0
  · rw [if_pos h]; exact ⟨_, rfl, by omega⟩
  · rw [if_neg h]; exact ⟨_, rfl, by omega⟩
theorem pure : laws_FnExactThroughPipe.Pure := by
  rintro p q l g b hp hq hl hg hb
  obtain ⟨s, f, t, len, d, w⟩ := p
  apply EvP.rounds
  unfold laws_FnExactThroughPipe.f
  obtain ⟨t1, e1, h1, h2⟩ := szPipe_val ⟨s, f, t, len, d, w⟩ 1048576 (by omega) (by omega) hp
  simp only at e1 h2
  simp only [e1, Option.bind_some]
  by_cases hn : t1 < 0
  · simp only [if_pos hn]
    exact EvP.now rfl
  simp only [if_neg hn]
  obtain ⟨t2, e2, h3⟩ := szStep (left := t1) (by omega) (by omega) hl.1
  simp only [e2, Option.bind_some]
  by_cases hn2 : t2 < 0
  · simp only [if_pos hn2]
    exact EvP.now rfl
  simp only [if_neg hn2]
  have hs := h2 (by omega)
  have hlen := h3 (by omega)
  have hto := toStepS_ev l hlen
  have hlen2 : (l.map toStepS_el).length ≤ 1048576 := by simpa using hlen
  generalize l.map toStepS_el = xs at hto hlen2
  have hpi : laws_toPipe.f s f t len d w = some (s, f, t, len, d, w) := rfl
  have hf1 := spec_ev s f t len d w q xs g b hs hlen2
  have hf2 := impl_ev s f t len d w q xs g b hs hlen2
  have hrl := thru_len s f t len d w q xs g b
  generalize thru s f t len d w q xs g b = r at *
  have her := eqStepS_ev r.1 (by omega)
  have hex := eqStepS_ev xs hlen2
  obtain ⟨y, m1, m2, _⟩ := markStepS_ev r.1 1 (by omega) (by omega)
  obtain ⟨z, n1, _⟩ := markStepS_ev xs 1 (by omega) (by omega)
  simp only [hpi, Option.bind_some]
  refine EvP.bind hto (EvP.bind hf1 (EvP.bind hto (EvP.bind hf2 (EvP.bind her ?_))))
  simp only [if_true, bne_self_eq_false]
  refine EvP.step (fun k => laws_FnExactThroughPipe.j0.eq_2 _ _ _ _ _ _ _ _ _ _ _ _ _ _ _ _ k) ?_
  simp only [Bool.false_eq_true, if_false]
  refine EvP.bind hto (EvP.bind hex ?_)
  simp only [if_true]
  refine EvP.bind n1 ?_
  simp only [if_neg (show ¬ (1 + 2 * (xs.length : Int) < 0) by omega)]
  refine EvP.bind her ?_
  simp only [if_true, bne_self_eq_false]
  refine EvP.step (fun k => laws_FnExactThroughPipe.j1.eq_2 _ _ _ _ _ _ _ _ _ _ _ _ _ _ k) ?_
  simp only [Bool.false_eq_true, if_false]
  refine EvP.bind m1 (EvP.bind m2 ?_)
  simp only [if_neg (show ¬ (1 + 2 * (r.1.length : Int) < 0) by omega), if_true, hpi, Option.bind_some]
  refine EvP.bind hto (EvP.bind hf2 (EvP.bind her ?_))
  simp only [if_true, bne_self_eq_false]
  refine EvP.step (fun k => laws_FnExactThroughPipe.j2.eq_2 _ _ _ k) ?_
  simp only [Bool.false_eq_true, if_false]
  refine EvP.bind m2 ?_
  simp only [if_neg (show ¬ (1 + 2 * (r.1.length : Int) < 0) by omega), if_true]
  exact EvP.now rfl
end Go.Proofs.Ytahadhldokhifaa.PureFnExactThroughPipe
end

section
namespace Go.Proofs.Ytahadhldokhifaa.RowFnExactThroughPipe
open Go.ChangeShapes Go.WideShapes Go.ChangeAt Go.RowKit Go.Proofs.YtahadhldokhifaaW.PrintWords Go.Proofs.Ytahadhldokhifaa.XP Go.Proofs.Ytahadhldokhifaa.Open
open Go.ChangeMaps (open_string shut_string)
set_option linter.unusedVariables false
theorem own : ownKnob Try.prog.godebug = none := by kernel_rfl
theorem laidOut : laidOutB Try.prog = true := by kernel_rfl
set_option maxRecDepth 100000 in
theorem lifted (os : Os) (started : os.Started) (H : Type) (enc : TypeId × Value → H) :
    ReturnsInHanded {} Try.checked os 3 .any (Rows.fnExactThroughPipeSpec.pre6 enc Try.prog Try.f3 Rows.fnExactThroughPipeRow.domain false) (Rows.fnExactThroughPipeSpec.post enc Try.prog Try.f3 false true false false) := by
  refine returnsInHanded_of_change_sized (C := Try.checked) own started (by kernel_rfl) Try.func3
    (ChangeSpec.witness6 (enc := enc) (C := Try.checked) false ⟨#[], #[(.agg #[(.string ⟨#[]⟩), (.int .i64 0), (.int .i64 0), (.int .i64 0), (.int .i64 0), (.int .i64 0)]), (.int .i64 0), (.slice none 0 0), (.int .i64 0), (.int .i64 0)], []⟩ 8 (by kernel_rfl) (by kernel_rfl) (by kernel_rfl) (by kernel_rfl)) ?_
  intro W base args ds gs before hval0 hW hcnd hsz0 _
  have hsz : (DataW.weightsEach Try.prog (Try.f3.params.toList ++ Rows.fnExactThroughPipeSpec.plain.varTypes Try.prog) (ds ++ gs)).all (· ≤ reachBytes) = true := hsz0
  have hval : ∀ (j : Nat) t v, Try.f3.params[j]? = some t → args[j]? = some v → Value.okWide Try.prog W .any base t v := hval0
  have hW' := hW
  obtain ⟨p, q, hA0, hV, rfl, hfz, hnd⟩ := hW
  have hA : DataW.TrodAll enc Try.prog W 0 (fun _ => true) true Try.f3.params.toList args.toList ds p := hA0
  rw [Try.params3] at hA hval hsz
  obtain ⟨v0, vs0, d0, ds0, p0, q0, hargs, rfl, rfl, h0, r0⟩ := trodAll_cons hA
  obtain ⟨v1, vs1, d1, ds1, p1, q1, rfl, rfl, rfl, h1, r1⟩ := trodAll_cons r0
  obtain ⟨v2, vs2, d2, ds2, p2, q2, rfl, rfl, rfl, h2, r2⟩ := trodAll_cons r1
  obtain ⟨v3, vs3, d3, ds3, p3, q3, rfl, rfl, rfl, h3, r3⟩ := trodAll_cons r2
  obtain ⟨v4, vs4, d4, ds4, p4, q4, rfl, rfl, rfl, h4, r4⟩ := trodAll_cons r3
  obtain ⟨rfl, rfl, rfl⟩ := trodAll_nil r4
  obtain rfl : args = #[v0, v1, v2, v3, v4] := by cases args; simp_all
  obtain ⟨rfl, rfl⟩ := trodVars_none hV
  have kk0 := h0
  have lt0 : ∀ x ∈ p0, x.block < W.heap.size := by obtain ⟨m, hm⟩ := kk0; exact DataW.trod_lt m _ _ _ hm
  obtain ⟨cs0, a0, rfl, hK0, hq0⟩ := open_st Try.underlying23 opens23 (hval 0 23 v0 rfl rfl) h0
  obtain rfl := k23_open hK0
  obtain ⟨a1, rfl, rfl, rfl, w1⟩ := open_int Try.underlying2 (hval 1 2 v1 rfl rfl) h1
  have kk2 := h2
  have lt2 : ∀ x ∈ p2, x.block < W.heap.size := by obtain ⟨m, hm⟩ := kk2; exact DataW.trod_lt m _ _ _ hm
  obtain ⟨A2, c2, a2, rfl, hc2, hr2, hq2⟩ := open_sl Try.underlying24 (by kernel_rfl) opens45 (hval 2 24 v2 rfl rfl) h2
  obtain ⟨a3, rfl, rfl, rfl, w3⟩ := open_int Try.underlying2 (hval 3 2 v3 rfl rfl) h3
  obtain ⟨a4, rfl, rfl, rfl, w4⟩ := open_int Try.underlying2 (hval 4 2 v4 rfl rfl) h4
  obtain ⟨k, hp⟩ := PureFnExactThroughPipe.pure a0 a1 a2 a3 a4 hq0 w1 hq2 w3 w4
  clear hA0 hval0 hsz0 hsz
  refine (laws_FnExactThroughPipe.calls k a0.f0 a0.f1 a0.f2 a0.f3 a0.f4 a0.f5 a1 A2 c2 a2 a3 a4 true W hr2 hc2 hp).mono fun e W' ⟨he, bel0⟩ => ?_
  have bel : Below W.heap.size W W' := bel0
  subst he
  exact ⟨_, rfl, _, _, _, [], _, [], hW', trodAll_mk1 (shut_bool Try.underlying4 _), (trodAll_cons_mk (Below.trod laidOut (by kernel_rfl) (of_decide_eq_true (by kernel_rfl)) kk0 bel lt0) (trodAll_cons_mk (shut_int Try.underlying2 w1) (trodAll_cons_mk (Below.trod laidOut (by kernel_rfl) (of_decide_eq_true (by kernel_rfl)) kk2 bel lt2) (trodAll_cons_mk (shut_int Try.underlying2 w3) (trodAll_cons_mk (shut_int Try.underlying2 w4) trodAll_mk0))))), rfl, bel.frame _, fun h => by cases h⟩
theorem over : Rows.fnExactThroughPipeRow.holds Try.pinned (OpenSpec.ofChange Rows.fnExactThroughPipeSpec) :=
  OpenClaim.holds_of_wide 3 Try.f3 rfl rfl rfl rfl rfl rfl rfl ⟨rfl, rfl, rfl, rfl, rfl⟩ rfl rfl rfl rfl rfl (by kernel_rfl) Try.func3 (by kernel_rfl)
    (of_decide_eq_true (by kernel_rfl)) (by unfold Func.isWrapper; first | (rw [if_pos (by decide +kernel)]; kernel_rfl) | (rw [if_neg (by decide +kernel)]; exact ⟨rfl, rfl⟩))
    (fun os started H enc _ => lifted os started H enc)
end Go.Proofs.Ytahadhldokhifaa.RowFnExactThroughPipe
namespace Go.Proofs.Ytahadhldokhifaa
theorem fnExactThroughPipe_holds : Rows.FnExactThroughPipeSaid := RowFnExactThroughPipe.over
end Go.Proofs.Ytahadhldokhifaa
end
