/- The law FnExactTableLines: part 3 of its texts, joined (wip/pack.py). -/
import Derived.Test.YtadaegehdcngdaaDoorKFnExactTableLinesa
import Derived.Test.YtadaegehdcngdaaDoorKFnExactTableLinesb
import Derived.Test.YtadaegehdcngdaaDoorKFnExactTableLinesc
import Derived.Lib.IndexLaws
import Derived.Lib.IndexBytes
import Derived.Lib.IndexMore
import Derived.Lib.Strings
import Derived.Lib.TrimByte
import Derived.Handed
import Derived.HandedShaped
import Derived.SizedLaws
import Derived.Stop.LaidErr
import Derived.Test.YtadaegehdcngdaaDoorRows
import Derived.WalkKit
import Derived.ProofKit
import Derived.OpenShut
import Derived.ShutString
import Derived.ChangeOld
import Derived.Below
import Derived.Lib.LaidTab
import Derived.Lib.ItoaNum
import Derived.LaidMore
import Derived.Lay
import Derived.SevenTiedAt
import Derived.Stop.Joined
import Derived.Test.YtadaegehdcngdaaDoorTie
import Derived.Test.YtadaegehdcngdaaDoorCards

section
namespace Go.Proofs.YtadaegehdcngdaaDoor.LinesU
open Go.RowKit Go.Proofs.YtadaegehdcngdaaDoorW.PrintWords Go.Proofs.YtadaegehdcngdaaDoor.XU Go.Proofs.YtadaegehdcngdaaDoor.EvK
set_option linter.unusedVariables false
set_option linter.unusedSimpArgs false
def okByte (a b : Int) (c : UInt8) : Bool := decide (a ≤ (c.toNat : Int)) && decide ((c.toNat : Int) ≤ b)
def within (s : ByteArray) (a b : Int) : Bool := s.data.toList.all (okByte a b)
def lineOk (s : ByteArray) : Bool := within s 32 126 && decide ((s.size : Int) ≤ 100)
def repOk (l : List ByteArray) : Bool := l.all lineOk && decide ((l.length : Int) ≤ 200)
theorem bytesWithin_ev (s : ByteArray) (a b : Int) (h : s.size ≤ 1048576) : Ev (fun k => impl_bytesWithin.f k s a b) (within s a b) := by
  unfold impl_bytesWithin.f within
  rw [size_len']  at h
  have := all_ev (L := fun k i => impl_bytesWithin.l0 k s a b (s.size : Int) i) s.data.toList (okByte a b) true ?_ ?_ ?_
  · simpa using this
  · intro i hi hp P K
    simp only [okByte, Bool.and_eq_true, decide_eq_true_eq] at hp
    refine EvP.step (fun k => impl_bytesWithin.l0.eq_2 _ _ _ _ _ k) ?_
    simp only [size_len, if_pos (show (i : Int) < (s.data.toList.length : Int) by omega), if_pos (show (0 : Int) ≤ (i : Int) by omega), bytes_at_ s i hi, if_neg (show ¬ ((s.data.toList[i].toNat : Int) < a) by omega), if_neg (show ¬ ((s.data.toList[i].toNat : Int) > b) by omega), w64 (show -9223372036854775808 ≤ (i : Int) + 1 by omega) (by omega)]
    simpa only [size_len] using K
  · intro i hi hp
    simp only [okByte, Bool.and_eq_false_iff, decide_eq_false_iff_not] at hp
    refine Ev.step (fun k => impl_bytesWithin.l0.eq_2 _ _ _ _ _ k) ?_
    simp only [size_len, if_pos (show (i : Int) < (s.data.toList.length : Int) by omega), if_pos (show (0 : Int) ≤ (i : Int) by omega), bytes_at_ s i hi]
    by_cases h1 : (s.data.toList[i].toNat : Int) < a
    · simp only [if_pos h1]; exact Ev.now _
    · simp only [if_neg h1, if_pos (show (s.data.toList[i].toNat : Int) > b by omega)]; exact Ev.now _
  · refine Ev.step (fun k => impl_bytesWithin.l0.eq_2 _ _ _ _ _ k) ?_
    simp only [size_len, if_neg (show ¬ (s.data.toList.length : Int) < (s.data.toList.length : Int) by omega)]
    exact Ev.now _
theorem impl_line_ev (s : ByteArray) (h : s.size ≤ 1048576) : Ev (fun k => impl_lineValid.f k s) (lineOk s) := by
  unfold impl_lineValid.f lineOk
  by_cases h1 : (s.size : Int) ≤ 100
  · simp only [if_pos h1, h1, decide_true, Bool.and_true]
    exact Ev.bind (bytesWithin_ev s 32 126 h) (Ev.now _)
  · simp only [if_neg h1, h1, decide_false, Bool.and_false]
    exact Ev.now _
theorem spec_line_ev (s : ByteArray) (h : s.size ≤ 1048576) : Ev (fun k => spec_l30Line.f k s) (lineOk s) := by
  unfold spec_l30Line.f lineOk within
  rw [size_len']  at h
  refine all_ev (L := fun k i => spec_l30Line.l0 k s i) s.data.toList (okByte 32 126) (decide ((s.size : Int) ≤ 100)) ?_ ?_ ?_
  · intro i hi hp P K
    simp only [okByte, Bool.and_eq_true, decide_eq_true_eq] at hp
    refine EvP.step (fun k => spec_l30Line.l0.eq_2 _ _ k) ?_
    simp only [size_len, if_pos (show (i : Int) < (s.data.toList.length : Int) by omega), if_pos (show (0 : Int) ≤ (i : Int) by omega), bytes_at_ s i hi, if_neg (show ¬ ((s.data.toList[i].toNat : Int) < 32) by omega), if_neg (show ¬ ((s.data.toList[i].toNat : Int) > 126) by omega), w64 (show -9223372036854775808 ≤ (i : Int) + 1 by omega) (by omega)]
    exact K
  · intro i hi hp
    simp only [okByte, Bool.and_eq_false_iff, decide_eq_false_iff_not] at hp
    refine Ev.step (fun k => spec_l30Line.l0.eq_2 _ _ k) ?_
    simp only [size_len, if_pos (show (i : Int) < (s.data.toList.length : Int) by omega), if_pos (show (0 : Int) ≤ (i : Int) by omega), bytes_at_ s i hi]
    by_cases h1 : (s.data.toList[i].toNat : Int) < 32
    · simp only [if_pos h1]; exact Ev.now _
    · simp only [if_neg h1, if_pos (show (s.data.toList[i].toNat : Int) > 126 by omega)]; exact Ev.now _
  · refine Ev.step (fun k => spec_l30Line.l0.eq_2 _ _ k) ?_
    simp only [size_len, if_neg (show ¬ (s.data.toList.length : Int) < (s.data.toList.length : Int) by omega)]
    exact Ev.now _
theorem spec_rep_ev (l : List ByteArray) (hl : l.length ≤ 1048576) (hs : ∀ x ∈ l, x.size ≤ 1048576) : Ev (fun k => spec_l30Ok.f k l) (repOk l) := by
  unfold spec_l30Ok.f repOk
  refine all_ev (L := fun k i => spec_l30Ok.l0 k l i) l lineOk _ ?_ ?_ ?_
  · intro i hi hp P K
    have e : rdOf ByteArray.empty l (i : Int) = l[i] := getD_at l ByteArray.empty i hi
    refine EvP.step (fun k => spec_l30Ok.l0.eq_2 _ _ k) ?_
    simp only [if_pos (show (i : Int) < (l.length : Int) by omega), if_pos (show (0 : Int) ≤ (i : Int) by omega), e, w64 (show -9223372036854775808 ≤ (i : Int) + 1 by omega) (by omega)]
    refine EvP.bind (spec_line_ev l[i] (hs _ (List.getElem_mem hi))) ?_
    simp only [hp, if_true]
    exact K
  · intro i hi hp
    have e : rdOf ByteArray.empty l (i : Int) = l[i] := getD_at l ByteArray.empty i hi
    refine Ev.step (fun k => spec_l30Ok.l0.eq_2 _ _ k) ?_
    simp only [if_pos (show (i : Int) < (l.length : Int) by omega), if_pos (show (0 : Int) ≤ (i : Int) by omega), e]
    refine Ev.bind (spec_line_ev l[i] (hs _ (List.getElem_mem hi))) ?_
    simp only [hp, Bool.false_eq_true, if_false]
    exact Ev.now _
  · refine Ev.step (fun k => spec_l30Ok.l0.eq_2 _ _ k) ?_
    simp only [if_neg (show ¬ (l.length : Int) < (l.length : Int) by omega)]
    exact Ev.now _
theorem impl_rep_ev (l : List ByteArray) (hl : l.length ≤ 1048576) (hs : ∀ x ∈ l, x.size ≤ 1048576) : Ev (fun k => impl_ValidReport.f k l) (repOk l) := by
  unfold impl_ValidReport.f repOk
  by_cases h1 : (l.length : Int) > 200
  · simp only [if_pos h1, show ¬ (l.length : Int) ≤ 200 by omega, decide_false, Bool.and_false]
    exact Ev.now _
  simp only [if_neg h1, show (l.length : Int) ≤ 200 by omega, decide_true]
  refine all_ev (L := fun k i => impl_ValidReport.l0 k l (l.length : Int) i) l lineOk true ?_ ?_ ?_
  · intro i hi hp P K
    have e : rdOf ByteArray.empty l (i : Int) = l[i] := getD_at l ByteArray.empty i hi
    refine EvP.step (fun k => impl_ValidReport.l0.eq_2 _ _ _ k) ?_
    simp only [if_pos (show (i : Int) < (l.length : Int) by omega), if_pos (show (0 : Int) ≤ (i : Int) by omega), e, w64 (show -9223372036854775808 ≤ (i : Int) + 1 by omega) (by omega)]
    refine EvP.bind (impl_line_ev l[i] (hs _ (List.getElem_mem hi))) ?_
    simp only [hp, if_true]
    exact K
  · intro i hi hp
    have e : rdOf ByteArray.empty l (i : Int) = l[i] := getD_at l ByteArray.empty i hi
    refine Ev.step (fun k => impl_ValidReport.l0.eq_2 _ _ _ k) ?_
    simp only [if_pos (show (i : Int) < (l.length : Int) by omega), if_pos (show (0 : Int) ≤ (i : Int) by omega), e]
    refine Ev.bind (impl_line_ev l[i] (hs _ (List.getElem_mem hi))) ?_
    simp only [hp, Bool.false_eq_true, if_false]
    exact Ev.now _
  · refine Ev.step (fun k => impl_ValidReport.l0.eq_2 _ _ _ k) ?_
    simp only [if_neg (show ¬ (l.length : Int) < (l.length : Int) by omega)]
    exact Ev.now _
end Go.Proofs.YtadaegehdcngdaaDoor.LinesU
end

section
namespace Go.Proofs.YtadaegehdcngdaaDoor.LinesB
open Go.RowKit Go.Proofs.YtadaegehdcngdaaDoorW.PrintWords Go.Proofs.YtadaegehdcngdaaDoor.XU Go.Proofs.YtadaegehdcngdaaDoor.EvK
open Go.Proofs.YtadaegehdcngdaaDoor.LinesU (okByte within lineOk repOk)
set_option linter.unusedVariables false
set_option linter.unusedSimpArgs false
theorem bytesWithin_ev (s : ByteArray) (a b : Int) (h : s.size ≤ 100000000) : Ev (fun k => impl_bytesWithin.f k s a b) (within s a b) := by
  unfold impl_bytesWithin.f within
  rw [size_len']  at h
  have := all_ev (L := fun k i => impl_bytesWithin.l0 k s a b (s.size : Int) i) s.data.toList (okByte a b) true ?_ ?_ ?_
  · simpa using this
  · intro i hi hp P K
    simp only [okByte, Bool.and_eq_true, decide_eq_true_eq] at hp
    refine EvP.step (fun k => impl_bytesWithin.l0.eq_2 _ _ _ _ _ k) ?_
    simp only [size_len, if_pos (show (i : Int) < (s.data.toList.length : Int) by omega), if_pos (show (0 : Int) ≤ (i : Int) by omega), bytes_at_ s i hi, if_neg (show ¬ ((s.data.toList[i].toNat : Int) < a) by omega), if_neg (show ¬ ((s.data.toList[i].toNat : Int) > b) by omega), w64 (show -9223372036854775808 ≤ (i : Int) + 1 by omega) (by omega)]
    simpa only [size_len] using K
  · intro i hi hp
    simp only [okByte, Bool.and_eq_false_iff, decide_eq_false_iff_not] at hp
    refine Ev.step (fun k => impl_bytesWithin.l0.eq_2 _ _ _ _ _ k) ?_
    simp only [size_len, if_pos (show (i : Int) < (s.data.toList.length : Int) by omega), if_pos (show (0 : Int) ≤ (i : Int) by omega), bytes_at_ s i hi]
    by_cases h1 : (s.data.toList[i].toNat : Int) < a
    · simp only [if_pos h1]; exact Ev.now _
    · simp only [if_neg h1, if_pos (show (s.data.toList[i].toNat : Int) > b by omega)]; exact Ev.now _
  · refine Ev.step (fun k => impl_bytesWithin.l0.eq_2 _ _ _ _ _ k) ?_
    simp only [size_len, if_neg (show ¬ (s.data.toList.length : Int) < (s.data.toList.length : Int) by omega)]
    exact Ev.now _
theorem impl_line_ev (s : ByteArray) (h : s.size ≤ 100000000) : Ev (fun k => impl_lineValid.f k s) (lineOk s) := by
  unfold impl_lineValid.f lineOk
  by_cases h1 : (s.size : Int) ≤ 100
  · simp only [if_pos h1, h1, decide_true, Bool.and_true]
    exact Ev.bind (bytesWithin_ev s 32 126 h) (Ev.now _)
  · simp only [if_neg h1, h1, decide_false, Bool.and_false]
    exact Ev.now _
theorem spec_line_ev (s : ByteArray) (h : s.size ≤ 100000000) : Ev (fun k => spec_l30Line.f k s) (lineOk s) := by
  unfold spec_l30Line.f lineOk within
  rw [size_len']  at h
  refine all_ev (L := fun k i => spec_l30Line.l0 k s i) s.data.toList (okByte 32 126) (decide ((s.size : Int) ≤ 100)) ?_ ?_ ?_
  · intro i hi hp P K
    simp only [okByte, Bool.and_eq_true, decide_eq_true_eq] at hp
    refine EvP.step (fun k => spec_l30Line.l0.eq_2 _ _ k) ?_
    simp only [size_len, if_pos (show (i : Int) < (s.data.toList.length : Int) by omega), if_pos (show (0 : Int) ≤ (i : Int) by omega), bytes_at_ s i hi, if_neg (show ¬ ((s.data.toList[i].toNat : Int) < 32) by omega), if_neg (show ¬ ((s.data.toList[i].toNat : Int) > 126) by omega), w64 (show -9223372036854775808 ≤ (i : Int) + 1 by omega) (by omega)]
    exact K
  · intro i hi hp
    simp only [okByte, Bool.and_eq_false_iff, decide_eq_false_iff_not] at hp
    refine Ev.step (fun k => spec_l30Line.l0.eq_2 _ _ k) ?_
    simp only [size_len, if_pos (show (i : Int) < (s.data.toList.length : Int) by omega), if_pos (show (0 : Int) ≤ (i : Int) by omega), bytes_at_ s i hi]
    by_cases h1 : (s.data.toList[i].toNat : Int) < 32
    · simp only [if_pos h1]; exact Ev.now _
    · simp only [if_neg h1, if_pos (show (s.data.toList[i].toNat : Int) > 126 by omega)]; exact Ev.now _
  · refine Ev.step (fun k => spec_l30Line.l0.eq_2 _ _ k) ?_
    simp only [size_len, if_neg (show ¬ (s.data.toList.length : Int) < (s.data.toList.length : Int) by omega)]
    exact Ev.now _
theorem spec_rep_ev (l : List ByteArray) (hl : l.length ≤ 100000000) (hs : ∀ x ∈ l, x.size ≤ 100000000) : Ev (fun k => spec_l30Ok.f k l) (repOk l) := by
  unfold spec_l30Ok.f repOk
  refine all_ev (L := fun k i => spec_l30Ok.l0 k l i) l lineOk _ ?_ ?_ ?_
  · intro i hi hp P K
    have e : rdOf ByteArray.empty l (i : Int) = l[i] := getD_at l ByteArray.empty i hi
    refine EvP.step (fun k => spec_l30Ok.l0.eq_2 _ _ k) ?_
    simp only [if_pos (show (i : Int) < (l.length : Int) by omega), if_pos (show (0 : Int) ≤ (i : Int) by omega), e, w64 (show -9223372036854775808 ≤ (i : Int) + 1 by omega) (by omega)]
    refine EvP.bind (spec_line_ev l[i] (hs _ (List.getElem_mem hi))) ?_
    simp only [hp, if_true]
    exact K
  · intro i hi hp
    have e : rdOf ByteArray.empty l (i : Int) = l[i] := getD_at l ByteArray.empty i hi
    refine Ev.step (fun k => spec_l30Ok.l0.eq_2 _ _ k) ?_
    simp only [if_pos (show (i : Int) < (l.length : Int) by omega), if_pos (show (0 : Int) ≤ (i : Int) by omega), e]
    refine Ev.bind (spec_line_ev l[i] (hs _ (List.getElem_mem hi))) ?_
    simp only [hp, Bool.false_eq_true, if_false]
    exact Ev.now _
  · refine Ev.step (fun k => spec_l30Ok.l0.eq_2 _ _ k) ?_
    simp only [if_neg (show ¬ (l.length : Int) < (l.length : Int) by omega)]
    exact Ev.now _
theorem impl_rep_ev (l : List ByteArray) (hl : l.length ≤ 100000000) (hs : ∀ x ∈ l, x.size ≤ 100000000) : Ev (fun k => impl_ValidReport.f k l) (repOk l) := by
  unfold impl_ValidReport.f repOk
  by_cases h1 : (l.length : Int) > 200
  · simp only [if_pos h1, show ¬ (l.length : Int) ≤ 200 by omega, decide_false, Bool.and_false]
    exact Ev.now _
  simp only [if_neg h1, show (l.length : Int) ≤ 200 by omega, decide_true]
  refine all_ev (L := fun k i => impl_ValidReport.l0 k l (l.length : Int) i) l lineOk true ?_ ?_ ?_
  · intro i hi hp P K
    have e : rdOf ByteArray.empty l (i : Int) = l[i] := getD_at l ByteArray.empty i hi
    refine EvP.step (fun k => impl_ValidReport.l0.eq_2 _ _ _ k) ?_
    simp only [if_pos (show (i : Int) < (l.length : Int) by omega), if_pos (show (0 : Int) ≤ (i : Int) by omega), e, w64 (show -9223372036854775808 ≤ (i : Int) + 1 by omega) (by omega)]
    refine EvP.bind (impl_line_ev l[i] (hs _ (List.getElem_mem hi))) ?_
    simp only [hp, if_true]
    exact K
  · intro i hi hp
    have e : rdOf ByteArray.empty l (i : Int) = l[i] := getD_at l ByteArray.empty i hi
    refine Ev.step (fun k => impl_ValidReport.l0.eq_2 _ _ _ k) ?_
    simp only [if_pos (show (i : Int) < (l.length : Int) by omega), if_pos (show (0 : Int) ≤ (i : Int) by omega), e]
    refine Ev.bind (impl_line_ev l[i] (hs _ (List.getElem_mem hi))) ?_
    simp only [hp, Bool.false_eq_true, if_false]
    exact Ev.now _
  · refine Ev.step (fun k => impl_ValidReport.l0.eq_2 _ _ _ k) ?_
    simp only [if_neg (show ¬ (l.length : Int) < (l.length : Int) by omega)]
    exact Ev.now _
end Go.Proofs.YtadaegehdcngdaaDoor.LinesB
end

section
namespace Go.Proofs.YtadaegehdcngdaaDoor.EvK
open Go.RowKit Go.Proofs.YtadaegehdcngdaaDoorW.PrintWords
set_option linter.unusedVariables false
theorem all_to {α ρ : Type} {L : Nat → Int → Option ρ} (l : List α) (p : α → Bool) (yes no : ρ)
    (step : ∀ (i : Nat) (h : i < l.length), p l[i] = true → ∀ P, EvP (fun k => L k ((i : Int) + 1)) P → EvP (fun k => L k i) P)
    (stop : ∀ (i : Nat) (h : i < l.length), p l[i] = false → Ev (fun k => L k i) no)
    (fin : l.all p = true → Ev (fun k => L k l.length) yes) : Ev (fun k => L k 0) (if l.all p = true then yes else no) := by
  apply EvP.eq
  refine for_evp (L := fun k (_ : Unit) i => L k i) l.length (fun i _ => ∀ x ∈ l.take i, p x = true) ?_ ?_ () (by simp)
  · intro i _ hi hs K
    cases hp : p l[i] with
    | true => exact step i hi hp _ (K () (take_all hi hs hp))
    | false =>
      have e : l.all p = false := by
        rw [List.all_eq_false]
        exact ⟨l[i], List.getElem_mem hi, by simp [hp]⟩
      rw [e]
      exact EvP.of (stop i hi hp) rfl
  · intro _ hs
    have e : l.all p = true := by
      rw [List.all_eq_true]
      simpa using hs
    rw [e]
    exact EvP.of (fin e) rfl
end Go.Proofs.YtadaegehdcngdaaDoor.EvK
end

section
namespace Go.Proofs.YtadaegehdcngdaaDoor.PTable
open Go.RowKit Go.Proofs.YtadaegehdcngdaaDoorW.PrintWords Go.Proofs.YtadaegehdcngdaaDoor.XU Go.Proofs.YtadaegehdcngdaaDoor.EvK Go.Proofs.YtadaegehdcngdaaDoor.LinesU
set_option linter.unusedVariables false
set_option linter.unusedSimpArgs false
def RowOk (M : Nat) (r : List ByteArray) : Prop := r.length ≤ 12 ∧ ∀ c ∈ r, within c 33 126 = true ∧ c.size ≤ M
def wN : List Int → List ByteArray → Nat → List Int
  | ws, [], _ => ws
  | ws, c :: l, i => wN (ws.set i (impl_TableLines.big ws i c)) l (i + 1)
def wAll (ws : List Int) (rows : List (List ByteArray)) : List Int := rows.foldl (fun ws r => wN ws r 0) ws
theorem wN_len : ∀ (l : List ByteArray) (ws : List Int) (i : Nat), (wN ws l i).length = ws.length
  | [], ws, i => rfl
  | c :: l, ws, i => by rw [wN, wN_len l, List.length_set]
theorem wAll_len : ∀ (rows : List (List ByteArray)) (ws : List Int), (wAll ws rows).length = ws.length
  | [], ws => rfl
  | r :: rows, ws => by
    show (wAll (wN ws r 0) rows).length = _
    rw [wAll_len rows, wN_len]
theorem rdOf_set (ws : List Int) (i j : Nat) (v : Int) (hi : i < ws.length) : rdOf 0 (ws.set i v) (j : Int) = if j = i then v else rdOf 0 ws (j : Int) := by
  unfold rdOf
  simp only [Int.toNat_natCast, List.getD_eq_getElem?_getD, List.getElem?_set]
  by_cases h : j = i
  · subst h; simp [hi]
  · rw [if_neg h, if_neg (fun e => h e.symm)]
theorem big_ge (ws : List Int) (i : Nat) (c : ByteArray) : rdOf 0 ws (i : Int) ≤ impl_TableLines.big ws i c ∧ (c.size : Int) ≤ impl_TableLines.big ws i c := by
  unfold impl_TableLines.big
  split <;> omega
theorem wN_ge : ∀ (l : List ByteArray) (ws : List Int) (i : Nat), i + l.length ≤ ws.length → ∀ j : Nat, rdOf 0 ws (j : Int) ≤ rdOf 0 (wN ws l i) (j : Int)
  | [], ws, i, _, j => Int.le_refl _
  | c :: l, ws, i, h, j => by
    rw [List.length_cons] at h
    refine Int.le_trans ?_ (wN_ge l _ (i + 1) (by rw [List.length_set]; omega) j)
    rw [rdOf_set _ _ _ _ (by omega)]
    split
    · rename_i e; rw [e]; exact (big_ge ws i c).1
    · exact Int.le_refl _
theorem wN_cell : ∀ (l : List ByteArray) (ws : List Int) (i : Nat), i + l.length ≤ ws.length → ∀ (t : Nat) (ht : t < l.length), ((l[t]).size : Int) ≤ rdOf 0 (wN ws l i) ((i + t : Nat) : Int)
  | [], ws, i, _, t, ht => by simp at ht
  | c :: l, ws, i, h, t, ht => by
    rw [List.length_cons] at h ht
    cases t with
    | zero =>
      refine Int.le_trans ?_ (wN_ge l _ (i + 1) (by rw [List.length_set]; omega) (i + 0))
      rw [rdOf_set _ _ _ _ (by omega), if_pos (by omega)]
      exact (big_ge ws i c).2
    | succ t =>
      have := wN_cell l (ws.set i (impl_TableLines.big ws i c)) (i + 1) (by rw [List.length_set]; omega) t (by omega)
      rw [show i + 1 + t = i + (t + 1) by omega] at this
      exact this
theorem wN_le (M : Nat) : ∀ (l : List ByteArray) (ws : List Int) (i : Nat), i + l.length ≤ ws.length → (∀ c ∈ l, c.size ≤ M) → (∀ j : Nat, 0 ≤ rdOf 0 ws (j : Int) ∧ rdOf 0 ws (j : Int) ≤ M) → ∀ j : Nat, 0 ≤ rdOf 0 (wN ws l i) (j : Int) ∧ rdOf 0 (wN ws l i) (j : Int) ≤ M
  | [], ws, i, _, _, hw, j => hw j
  | c :: l, ws, i, h, hc, hw, j => by
    rw [List.length_cons] at h
    refine wN_le M l _ (i + 1) (by rw [List.length_set]; omega) (fun c h => hc c (by simp [h])) (fun j => ?_) j
    rw [rdOf_set _ _ _ _ (by omega)]
    split
    · have := hc c (by simp)
      have := hw i
      unfold impl_TableLines.big
      split <;> omega
    · exact hw j
theorem wAll_ge : ∀ (rows : List (List ByteArray)) (ws : List Int), ws.length = 12 → (∀ r ∈ rows, r.length ≤ 12) → ∀ j : Nat, rdOf 0 ws (j : Int) ≤ rdOf 0 (wAll ws rows) (j : Int)
  | [], ws, _, _, j => Int.le_refl _
  | r :: rows, ws, hl, hr, j => by
    have h1 := hr r (by simp)
    exact Int.le_trans (wN_ge r ws 0 (by omega) j) (wAll_ge rows (wN ws r 0) (by rw [wN_len, hl]) (fun r h => hr r (by simp [h])) j)
theorem wAll_cell : ∀ (rows : List (List ByteArray)) (ws : List Int), ws.length = 12 → (∀ r ∈ rows, r.length ≤ 12) → ∀ r ∈ rows, ∀ (t : Nat) (ht : t < r.length), ((r[t]).size : Int) ≤ rdOf 0 (wAll ws rows) (t : Int)
  | [], ws, _, _, r, h => by cases h
  | q :: rows, ws, hl, hr, r, h => by
    intro t ht
    have h1 := hr q (by simp)
    rcases List.mem_cons.1 h with rfl | h
    · have := wN_cell r ws 0 (by omega) t ht
      rw [Nat.zero_add] at this
      exact Int.le_trans this (wAll_ge rows (wN ws r 0) (by rw [wN_len, hl]) (fun r h => hr r (by simp [h])) t)
    · exact wAll_cell rows (wN ws q 0) (by rw [wN_len, hl]) (fun r h => hr r (by simp [h])) r h t ht
theorem wAll_le (M : Nat) : ∀ (rows : List (List ByteArray)) (ws : List Int), ws.length = 12 → (∀ r ∈ rows, RowOk M r) → (∀ j : Nat, 0 ≤ rdOf 0 ws (j : Int) ∧ rdOf 0 ws (j : Int) ≤ M) → ∀ j : Nat, 0 ≤ rdOf 0 (wAll ws rows) (j : Int) ∧ rdOf 0 (wAll ws rows) (j : Int) ≤ M
  | [], ws, _, _, hw, j => hw j
  | r :: rows, ws, hl, hr, hw, j => by
    have h1 := hr r (by simp)
    have h2 := h1.1
    exact wAll_le M rows (wN ws r 0) (by rw [wN_len, hl]) (fun r h => hr r (by simp [h])) (wN_le M r ws 0 (by omega) (fun c hc => (h1.2 c hc).2) hw) j
theorem wrow_ev (M : Nat) (hM : M ≤ 1048576) : ∀ (l : List ByteArray) (i : Nat) (ws : List Int), (∀ c ∈ l, within c 33 126 = true ∧ c.size ≤ M) → Ev (fun k => impl_TableLines.wrow k l i ws) (some (wN ws l i))
  | [], i, ws, _ => Ev.now _
  | c :: l, i, ws, h => by
    obtain ⟨h1, h2⟩ := h c (by simp)
    show Ev (fun k => (impl_bytesWithin.f k c 33 126).bind fun b => if b = true then impl_TableLines.wrow k l (i + 1) (ws.set i (impl_TableLines.big ws i c)) else some none) _
    refine Ev.bind (bytesWithin_ev c 33 126 (by omega)) ?_
    simp only [h1, if_true]
    exact wrow_ev M hM l (i + 1) _ (fun c hc => h c (by simp [hc]))
theorem wrows_ev (M : Nat) (hM : M ≤ 1048576) : ∀ (rows : List (List ByteArray)) (ws : List Int), (∀ r ∈ rows, RowOk M r) → Ev (fun k => impl_TableLines.wrows k rows ws) (some (wAll ws rows))
  | [], ws, _ => Ev.now _
  | r :: rows, ws, h => by
    obtain ⟨h1, h2⟩ := h r (by simp)
    show Ev (fun k => if r.length ≤ 12 then (impl_TableLines.wrow k r 0 ws).bind fun o => match o with | none => some none | some ws' => impl_TableLines.wrows k rows ws' else some none) _
    simp only [if_pos h1]
    refine Ev.bind (wrow_ev M hM r 0 ws h2) ?_
    exact wrows_ev M hM rows _ (fun r hr => h r (by simp [hr]))
theorem rdL (rows : List (List ByteArray)) (q : Nat) (hq : q < rows.length) : rd_L1 rows (q : Int) = rows[q] := by
  unfold rd_L1
  simp [List.getD_eq_getElem?_getD, List.getElem?_eq_getElem hq]
theorem set_self (ws : List Int) (i : Nat) : ws.set i (rdOf 0 ws (i : Int)) = ws := by
  apply List.ext_getElem?
  intro j
  rw [List.getElem?_set]
  by_cases h : i = j
  · subst h
    by_cases h2 : i < ws.length
    · simp [rdOf, h2]
    · simp [h2]
  · rw [if_neg h]
theorem spec_row (rows : List (List ByteArray)) (hl : rows.length ≤ 1048576) (q : Nat) (hq : q < rows.length) (r : List ByteArray) (hr : rows[q] = r) (h12 : r.length ≤ 12) (hs : ∀ c ∈ r, c.size ≤ 1048576) {P : List ByteArray → Prop} :
    ∀ (d j : Nat) (ws : List Int), j + d = r.length → ws.length = 12 → EvP (fun k => spec_l30Table.l0 k rows (wN ws (r.drop j) j) ((q : Int) + 1)) P → EvP (fun k => spec_l30Table.l1 k rows ws (q : Int) (j : Int)) P := by
  have wq := w64 (show -9223372036854775808 ≤ (q : Int) + 1 by omega) (by omega)
  intro d
  induction d with
  | zero =>
    intro j ws hj hw K
    refine EvP.step (fun k => spec_l30Table.l1.eq_2 _ _ _ _ k) ?_
    simp only [if_pos (show (0 : Int) ≤ (q : Int) by omega), if_pos (show (q : Int) < (rows.length : Int) by omega), rdL rows q hq, hr, if_neg (show ¬ (j : Int) < (r.length : Int) by omega), wq]
    rw [List.drop_eq_nil_of_le (by omega)] at K
    exact K
  | succ d ih =>
    intro j ws hj hw K
    have hjl : j < r.length := by omega
    have hc : rdOf ByteArray.empty r (j : Int) = r[j] := rdOf_at r _ j hjl
    have wj := w64 (show -9223372036854775808 ≤ (j : Int) + 1 by omega) (by omega)
    refine EvP.step (fun k => spec_l30Table.l1.eq_2 _ _ _ _ k) ?_
    simp only [if_pos (show (0 : Int) ≤ (q : Int) by omega), if_pos (show (q : Int) < (rows.length : Int) by omega), rdL rows q hq, hr, if_pos (show (j : Int) < (r.length : Int) by omega), if_pos (show (0 : Int) ≤ (j : Int) by omega), if_pos (show (j : Int) < (ws.length : Int) by omega), hc, wj, Int.toNat_natCast]
    rw [List.drop_eq_getElem_cons hjl] at K
    have K2 := ih (j + 1) (ws.set j (impl_TableLines.big ws j r[j])) (by omega) (by rw [List.length_set, hw]) K
    have hc1 : ((j : Int) + 1) = ((j + 1 : Nat) : Int) := by omega
    rw [hc1]
    have hrd : rd ws (j : Int) = rdOf 0 ws (j : Int) := rfl
    by_cases hg : (r[j].size : Int) > rd ws (j : Int)
    · simp only [if_pos hg]
      have : impl_TableLines.big ws j r[j] = (r[j].size : Int) := by unfold impl_TableLines.big; rw [if_pos (by rw [← hrd]; exact hg)]
      rw [this] at K2
      exact K2
    · simp only [if_neg hg]
      have : impl_TableLines.big ws j r[j] = rdOf 0 ws (j : Int) := by unfold impl_TableLines.big; rw [if_neg (by rw [← hrd]; exact hg)]
      rw [this, set_self] at K2
      exact K2
theorem spec_rows (M : Nat) (hM : M ≤ 1048576) (rows : List (List ByteArray)) (hl : rows.length ≤ 1048576) (hr : ∀ r ∈ rows, RowOk M r) {P : List ByteArray → Prop} :
    ∀ (d q : Nat) (ws : List Int), q + d = rows.length → ws.length = 12 → EvP (fun k => spec_l30Table.l2 k rows (wAll ws (rows.drop q)) [] 0) P → EvP (fun k => spec_l30Table.l0 k rows ws (q : Int)) P := by
  intro d
  induction d with
  | zero =>
    intro q ws hq hw K
    refine EvP.step (fun k => spec_l30Table.l0.eq_2 _ _ _ k) ?_
    simp only [if_neg (show ¬ (q : Int) < (rows.length : Int) by omega)]
    rw [List.drop_eq_nil_of_le (by omega)] at K
    exact K
  | succ d ih =>
    intro q ws hq hw K
    have hql : q < rows.length := by omega
    refine EvP.step (fun k => spec_l30Table.l0.eq_2 _ _ _ k) ?_
    simp only [if_pos (show (q : Int) < (rows.length : Int) by omega)]
    have h1 := hr _ (List.getElem_mem hql)
    rw [List.drop_eq_getElem_cons hql] at K
    refine spec_row rows hl q hql _ rfl h1.1 (fun c hc => Nat.le_trans (h1.2 c hc).2 hM) rows[q].length 0 ws (by omega) hw ?_
    have := ih (q + 1) (wN ws rows[q] 0) (by omega) (by rw [wN_len, hw]) K
    simpa using this
def sps (n : Nat) : List UInt8 := List.replicate n 32
def txt (ws : List Int) : List ByteArray → Nat → List UInt8
  | [], _ => []
  | c :: l, i => c.data.toList ++ (sps ((impl_TableLines.gap ws i c).toNat) ++ txt ws l (i + 1))
def mk (l : List UInt8) : ByteArray := ⟨l.toArray⟩
theorem mk_list (l : List UInt8) : (mk l).data.toList = l := rfl
theorem data_inj {a b : ByteArray} (h : a.data.toList = b.data.toList) : a = b := ByteArray.ext (Array.ext' h)
theorem rep32 (n : Nat) : Lib.repeatL (⟨#[32]⟩ : ByteArray).data.toList n = sps n := by
  unfold sps
  induction n with
  | zero => rfl
  | succ n ih => first | (rw [Lib.repeatL, ih]; rfl) | (simp [Lib.repeatL, List.replicate_succ] at *; done)
theorem cellsT_eq (M : Nat) (hM : M ≤ 1048576) (ws : List Int) (hw : ∀ j : Nat, 0 ≤ rdOf 0 ws (j : Int) ∧ rdOf 0 ws (j : Int) ≤ M) : ∀ (l : List ByteArray) (i : Nat) (a : ByteArray), (∀ (t : Nat) (ht : t < l.length), ((l[t]).size : Int) ≤ rdOf 0 ws ((i + t : Nat) : Int)) → i + l.length ≤ 12 → a.size ≤ i * 4194304 →
    impl_TableLines.cellsT ws l i a = some (mk (a.data.toList ++ txt ws l i))
  | [], i, a, _, _, _ => by
    show some a = _
    congr 1
    apply data_inj
    rw [mk_list, txt, List.append_nil]
  | c :: l, i, a, h, h12, ha => by
    rw [List.length_cons] at h12
    have h0 := h 0 (by simp)
    rw [Nat.add_zero, List.getElem_cons_zero] at h0
    have hwi := hw i
    obtain ⟨g, hg⟩ : ∃ g : Nat, impl_TableLines.gap ws i c = (g : Int) := ⟨(impl_TableLines.gap ws i c).toNat, by unfold impl_TableLines.gap; omega⟩
    have hgv : (g : Int) = rdOf 0 ws (i : Int) - (c.size : Int) + 2 := by rw [← hg]; rfl
    have hrs : strings_Repeat.f (⟨#[32]⟩ : ByteArray) (g : Int) = some (mk (sps g)) := by
      unfold strings_Repeat.f
      rw [show ((⟨#[32]⟩ : ByteArray).size : Int) = 1 from rfl, if_pos ⟨by omega, by omega, by omega⟩, Int.toNat_natCast, rep32]
      rfl
    have hsz : (mk (sps g)).size = g := by simp [mk, sps, ByteArray.size]
    have hcs : (c ++ mk (sps g)).size = c.size + g := by rw [ByteArray.size_append, hsz]
    unfold impl_TableLines.cellsT
    rw [hg, if_pos ⟨by omega, by omega⟩, hrs]
    simp only [Option.bind_some, hsz, hcs]
    rw [if_pos ⟨by omega, by omega⟩, cellsT_eq M hM ws hw l (i + 1) (a ++ (c ++ mk (sps g))) (fun t ht => by
      have := h (t + 1) (by simp; omega)
      rw [List.getElem_cons_succ] at this
      rw [show i + 1 + t = i + (t + 1) by omega]
      exact this) (by omega) (by rw [ByteArray.size_append, hcs]; omega)]
    congr 2
    rw [txt, hg, Int.toNat_natCast]
    simp [ByteArray.data_append, mk]
theorem txt_len (M : Nat) (ws : List Int) (hw : ∀ j : Nat, 0 ≤ rdOf 0 ws (j : Int) ∧ rdOf 0 ws (j : Int) ≤ M) : ∀ (l : List ByteArray) (i : Nat), (∀ (t : Nat) (ht : t < l.length), ((l[t]).size : Int) ≤ rdOf 0 ws ((i + t : Nat) : Int)) → (txt ws l i).length ≤ l.length * (M + 2)
  | [], i, _ => by simp [txt]
  | c :: l, i, h => by
    have h0 := h 0 (by simp)
    rw [Nat.add_zero, List.getElem_cons_zero] at h0
    have hwi := hw i
    have := txt_len M ws hw l (i + 1) (fun t ht => by
      have := h (t + 1) (by simp; omega)
      rw [List.getElem_cons_succ] at this
      rw [show i + 1 + t = i + (t + 1) by omega]
      exact this)
    have hcs : c.data.toList.length = c.size := (size_len' c).symm
    rw [txt, List.length_append, List.length_append, List.length_cons, Nat.succ_mul, hcs]
    have : (sps (impl_TableLines.gap ws i c).toNat).length = (impl_TableLines.gap ws i c).toNat := by simp [sps]
    rw [this]
    unfold impl_TableLines.gap
    omega
def lineOf (ws : List Int) (r : List ByteArray) : ByteArray := mk (Lib.trimRightB (txt ws r 0) 32)
theorem trim_snoc (l : List UInt8) : Lib.trimRightB (l ++ [32]) 32 = Lib.trimRightB l 32 := by
  unfold Lib.trimRightB
  rw [List.reverse_append]
  rfl
theorem trim_snoc_ne (l : List UInt8) (c : UInt8) (hc : c ≠ 32) : Lib.trimRightB (l ++ [c]) 32 = l ++ [c] := by
  unfold Lib.trimRightB
  rw [List.reverse_append]
  simp [List.dropWhile, hc]
theorem trim_len (l : List UInt8) : (Lib.trimRightB l 32).length ≤ l.length := by
  unfold Lib.trimRightB
  rw [List.length_reverse]
  have := (List.dropWhile_sublist (fun x => x == (32 : UInt8)) (l := l.reverse)).length_le
  rw [List.length_reverse] at this
  exact this
theorem linesT_eq (M : Nat) (hM : M ≤ 1048576) (ws : List Int) (hw : ∀ j : Nat, 0 ≤ rdOf 0 ws (j : Int) ∧ rdOf 0 ws (j : Int) ≤ M) : ∀ (rows : List (List ByteArray)) (out : List ByteArray), (∀ r ∈ rows, r.length ≤ 12 ∧ ∀ (t : Nat) (ht : t < r.length), ((r[t]).size : Int) ≤ rdOf 0 ws (t : Int)) → out.length + rows.length ≤ 1048576 →
    impl_TableLines.linesT ws rows out = some (out ++ rows.map (lineOf ws))
  | [], out, _, _ => by simp [impl_TableLines.linesT]
  | r :: rows, out, h, hl => by
    obtain ⟨h12, hc⟩ := h r (by simp)
    rw [List.length_cons] at hl
    have e1 := cellsT_eq M hM ws hw r 0 ⟨#[]⟩ (fun t ht => by rw [Nat.zero_add]; exact hc t ht) (by omega) (Nat.zero_le _)
    have hlen := txt_len M ws hw r 0 (fun t ht => by rw [Nat.zero_add]; exact hc t ht)
    have hmul : r.length * (M + 2) ≤ 12 * (M + 2) := Nat.mul_le_mul_right _ h12
    have e2 : strings_TrimRight.f (mk ((⟨#[]⟩ : ByteArray).data.toList ++ txt ws r 0)) (⟨#[32]⟩ : ByteArray) = some (lineOf ws r) := by
      unfold strings_TrimRight.f
      rw [if_pos ⟨by
        rw [size_len', mk_list]
        show (txt ws r 0).length ≤ _
        omega, rfl⟩]
      rfl
    unfold impl_TableLines.linesT
    rw [if_pos h12, e1]
    simp only [Option.bind_some, e2]
    rw [if_pos (by omega), linesT_eq M hM ws hw rows _ (fun r hr => h r (by simp [hr])) (by rw [List.length_append, List.length_singleton]; omega)]
    simp
theorem strip_ev (rows : List (List ByteArray)) (ws : List Int) (out : List ByteArray) (hout : out.length < 1048577) (q : Nat) (hq : q < 1048576) {P : List ByteArray → Prop} : ∀ (n : Nat) (x : ByteArray), x.data.toList.length = n → n ≤ 100000000 →
    EvP (fun k => spec_l30Table.l2 k rows ws (out ++ [mk (Lib.trimRightB x.data.toList 32)]) ((q : Int) + 1)) P → EvP (fun k => spec_l30Table.l5 k rows ws out (q : Int) x) P := by
  have wq := w64 (show -9223372036854775808 ≤ (q : Int) + 1 by omega) (by omega)
  intro n
  induction n with
  | zero =>
    intro x hx _ K
    have hL := size_len' x
    have hnil : x.data.toList = [] := List.eq_nil_of_length_eq_zero hx
    refine EvP.step (fun k => spec_l30Table.l5.eq_2 _ _ _ _ _ k) ?_
    simp only [if_neg (show ¬ (x.size : Int) > 0 by omega), if_pos (show out.length < 8796093022208 by omega), wq]
    have : mk (Lib.trimRightB x.data.toList 32) = x := data_inj (by rw [mk_list, hnil]; rfl)
    rw [this] at K
    exact K
  | succ n ih =>
    intro x hx hn K
    have hL := size_len' x
    obtain ⟨l, c, hlc⟩ : ∃ l c, x.data.toList = l ++ [c] := by
      rcases List.eq_nil_or_concat x.data.toList with e | ⟨l, c, e⟩
      · rw [e] at hx; simp at hx
      · exact ⟨l, c, by rw [e, List.concat_eq_append]⟩
    have hll : l.length = n := by rw [hlc, List.length_append, List.length_singleton] at hx; omega
    have w1 : wrap64 ((x.size : Int) - 1) = ((n : Nat) : Int) := by rw [w64 (by omega) (by omega)]; omega
    have hb : bt x (n : Int) = (c.toNat : Int) := by
      rw [bytes_at_ x n (by omega)]
      simp only [hlc, ← hll]
      rw [List.getElem_append_right (Nat.le_refl _)]
      simp
    refine EvP.step (fun k => spec_l30Table.l5.eq_2 _ _ _ _ _ k) ?_
    simp only [if_pos (show (x.size : Int) > 0 by omega), w1, if_pos (show (0 : Int) ≤ (n : Int) by omega), if_pos (show (n : Int) < (x.size : Int) by omega), hb]
    by_cases hc : c = 32
    · subst hc
      simp only [show (((32 : UInt8).toNat : Int) = 32) from rfl, if_true, if_pos (show (n : Int) ≤ (x.size : Int) by omega), Int.toNat_natCast]
      have he : (x.extract 0 n).data.toList = l := by
        simp [ByteArray.data_extract, Array.toList_extract, List.extract_eq_take_drop, hlc, ← hll]
      refine ih (x.extract 0 n) (by rw [he, hll]) (by omega) ?_
      rw [he]
      rw [hlc, trim_snoc] at K
      exact K
    · have hn32 : ¬ (c.toNat : Int) = 32 := fun e => hc (UInt8.toNat_inj.1 (by rw [show (32 : UInt8).toNat = 32 from rfl]; omega))
      simp only [if_neg hn32, if_pos (show out.length < 8796093022208 by omega), wq]
      have : mk (Lib.trimRightB x.data.toList 32) = x := data_inj (by rw [mk_list, hlc, trim_snoc_ne l c hc])
      rw [this] at K
      exact K
theorem pad_ev (rows : List (List ByteArray)) (ws : List Int) (hw : ws.length = 12) (out : List ByteArray) (q : Nat) (j : Nat) (hj : j < 12) (W : Nat) (hW : rdOf 0 ws (j : Int) = (W : Int)) (hWM : W ≤ 1048576) {P : List ByteArray → Prop} : ∀ (d b : Nat) (x : ByteArray), b + d = W → x.size ≤ 100000000 + b →
    EvP (fun k => spec_l30Table.l3 k rows ws out (q : Int) (x ++ mk (sps d)) ((j : Int) + 1)) P → EvP (fun k => spec_l30Table.l4 k rows ws out (q : Int) x (j : Int) (b : Int)) P := by
  have wj := w64 (show -9223372036854775808 ≤ (j : Int) + 1 by omega) (by omega)
  have hrd : rd ws (j : Int) = (W : Int) := hW
  intro d
  induction d with
  | zero =>
    intro b x hb hx K
    refine EvP.step (fun k => spec_l30Table.l4.eq_2 _ _ _ _ _ _ _ k) ?_
    simp only [if_pos (show (0 : Int) ≤ (j : Int) by omega), if_pos (show (j : Int) < (ws.length : Int) by omega), hrd, if_neg (show ¬ (b : Int) < (W : Int) by omega), wj]
    have : x ++ mk (sps 0) = x := data_inj (by rw [ByteArray.data_append, Array.toList_append, mk_list]; simp [sps])
    rw [this] at K
    exact K
  | succ d ih =>
    intro b x hb hx K
    have wb := w64 (show -9223372036854775808 ≤ (b : Int) + 1 by omega) (by omega)
    refine EvP.step (fun k => spec_l30Table.l4.eq_2 _ _ _ _ _ _ _ k) ?_
    simp only [if_pos (show (0 : Int) ≤ (j : Int) by omega), if_pos (show (j : Int) < (ws.length : Int) by omega), hrd, if_pos (show (b : Int) < (W : Int) by omega), if_pos (show x.size + 1 ≤ 9223372036854775807 by omega), wb]
    have hs1 : (x ++ (⟨#[32]⟩ : ByteArray)).size = x.size + 1 := by rw [ByteArray.size_append]; rfl
    have hc1 : ((b : Int) + 1) = ((b + 1 : Nat) : Int) := by omega
    rw [hc1]
    refine ih (b + 1) (x ++ (⟨#[32]⟩ : ByteArray)) (by omega) (by rw [hs1]; omega) ?_
    have : x ++ mk (sps (d + 1)) = x ++ (⟨#[32]⟩ : ByteArray) ++ mk (sps d) := data_inj (by
      simp only [ByteArray.data_append, Array.toList_append, mk_list, sps, List.replicate_succ]
      simp)
    rw [this] at K
    exact K
theorem cells_ev (M : Nat) (hM : M ≤ 1048576) (rows : List (List ByteArray)) (ws : List Int) (hws : ws.length = 12) (hw : ∀ j : Nat, 0 ≤ rdOf 0 ws (j : Int) ∧ rdOf 0 ws (j : Int) ≤ M) (out : List ByteArray) (hout : out.length < 1048577) (q : Nat) (hq : q < rows.length) (hql : rows.length ≤ 1048576) (r : List ByteArray) (hr : rows[q] = r) (h12 : r.length ≤ 12)
    (hc : ∀ (t : Nat) (ht : t < r.length), ((r[t]).size : Int) ≤ rdOf 0 ws (t : Int)) {P : List ByteArray → Prop} (T : List UInt8) (K : EvP (fun k => spec_l30Table.l2 k rows ws (out ++ [mk (Lib.trimRightB T 32)]) ((q : Int) + 1)) P) :
    ∀ (d j : Nat) (x : ByteArray) (A : List UInt8), j + d = r.length → (j = 0 ∧ x.data.toList = A ∨ 0 < j ∧ x.data.toList ++ [32, 32] = A) → A.length ≤ j * 4194304 → A ++ txt ws (r.drop j) j = T → EvP (fun k => spec_l30Table.l3 k rows ws out (q : Int) x (j : Int)) P := by
  intro d
  induction d with
  | zero =>
    intro j x A hj hx hA hT
    have hL := size_len' x
    have hxA : x.data.toList.length ≤ A.length := by
      rcases hx with ⟨_, h⟩ | ⟨_, h⟩
      · rw [h]; exact Nat.le_refl _
      · rw [← h]; simp
    refine EvP.step (fun k => spec_l30Table.l3.eq_2 _ _ _ _ _ _ k) ?_
    simp only [if_pos (show (0 : Int) ≤ (q : Int) by omega), if_pos (show (q : Int) < (rows.length : Int) by omega), rdL rows q hq, hr, if_neg (show ¬ (j : Int) < (r.length : Int) by omega)]
    refine strip_ev rows ws out hout q (by omega) _ x rfl (by omega) ?_
    have : Lib.trimRightB x.data.toList 32 = Lib.trimRightB T 32 := by
      rw [← hT, List.drop_eq_nil_of_le (by omega), txt, List.append_nil]
      rcases hx with ⟨_, h⟩ | ⟨_, h⟩
      · rw [h]
      · rw [← h, show ([32, 32] : List UInt8) = [32] ++ [32] from rfl, ← List.append_assoc, trim_snoc, trim_snoc]
    rw [this]
    exact K
  | succ d ih =>
    intro j x A hj hx hA hT
    have hL := size_len' x
    have hjl : j < r.length := by omega
    have hxA : x.data.toList.length ≤ A.length := by
      rcases hx with ⟨_, h⟩ | ⟨_, h⟩
      · rw [h]; exact Nat.le_refl _
      · rw [← h]; simp
    have hcr : rdOf ByteArray.empty r (j : Int) = r[j] := rdOf_at r _ j hjl
    have hcj := hc j hjl
    obtain ⟨hw0, hw1⟩ := hw j
    obtain ⟨W, hW⟩ : ∃ W : Nat, rdOf 0 ws (j : Int) = (W : Int) := ⟨(rdOf 0 ws (j : Int)).toNat, by omega⟩
    have jstep : ∀ y : ByteArray, y.data.toList = A → EvP (fun k => spec_l30Table.j4 k rows ws out (q : Int) y (j : Int)) P := by
      intro y hy
      have hyL := size_len' y
      rw [hy] at hyL
      refine EvP.step (fun k => spec_l30Table.j4.eq_2 _ _ _ _ _ _ k) ?_
      simp only [if_pos (show (0 : Int) ≤ (q : Int) by omega), if_pos (show (q : Int) < (rows.length : Int) by omega), rdL rows q hq, hr, if_pos (show (0 : Int) ≤ (j : Int) by omega), if_pos (show (j : Int) < (r.length : Int) by omega), hcr, if_pos (show y.size + r[j].size ≤ 9223372036854775807 by omega)]
      refine pad_ev rows ws hws out q j (by omega) W hW (by omega) (W - r[j].size) r[j].size (y ++ r[j]) (by omega) (by rw [ByteArray.size_append]; omega) ?_
      have hc1 : ((j : Int) + 1) = ((j + 1 : Nat) : Int) := by omega
      rw [hc1]
      have hg : impl_TableLines.gap ws j r[j] = ((W - r[j].size + 2 : Nat) : Int) := by unfold impl_TableLines.gap; omega
      refine ih (j + 1) _ (A ++ (r[j].data.toList ++ sps (W - r[j].size + 2))) (by omega) (Or.inr ⟨by omega, ?_⟩) ?_ ?_
      · simp only [ByteArray.data_append, Array.toList_append, mk_list, hy, sps]
        rw [show W - r[j].size + 2 = W - r[j].size + 1 + 1 from rfl, List.replicate_succ', List.replicate_succ']
        simp
      · have hcs : r[j].data.toList.length = r[j].size := (size_len' _).symm
        rw [List.length_append, List.length_append, hcs]
        have : (sps (W - r[j].size + 2)).length = W - r[j].size + 2 := by simp [sps]
        rw [this]
        omega
      · rw [← hT, List.drop_eq_getElem_cons hjl, txt, hg, Int.toNat_natCast]
        simp
    refine EvP.step (fun k => spec_l30Table.l3.eq_2 _ _ _ _ _ _ k) ?_
    simp only [if_pos (show (0 : Int) ≤ (q : Int) by omega), if_pos (show (q : Int) < (rows.length : Int) by omega), rdL rows q hq, hr, if_pos (show (j : Int) < (r.length : Int) by omega)]
    rcases hx with ⟨hj0, h⟩ | ⟨hj0, h⟩
    · simp only [if_neg (show ¬ (j : Int) > 0 by omega)]
      exact jstep x h
    · simp only [if_pos (show (j : Int) > 0 by omega), if_pos (show x.size + 2 ≤ 9223372036854775807 by omega)]
      refine jstep _ ?_
      rw [ByteArray.data_append, Array.toList_append, ← h]
theorem lines_ev (M : Nat) (hM : M ≤ 1048576) (rows : List (List ByteArray)) (hl : rows.length ≤ 1048576) (ws : List Int) (hws : ws.length = 12) (hw : ∀ j : Nat, 0 ≤ rdOf 0 ws (j : Int) ∧ rdOf 0 ws (j : Int) ≤ M)
    (hc : ∀ r ∈ rows, r.length ≤ 12 ∧ ∀ (t : Nat) (ht : t < r.length), ((r[t]).size : Int) ≤ rdOf 0 ws (t : Int)) : ∀ (d q : Nat) (out : List ByteArray), q + d = rows.length → out.length = q → EvP (fun k => spec_l30Table.l2 k rows ws out (q : Int)) (· = out ++ (rows.drop q).map (lineOf ws)) := by
  intro d
  induction d with
  | zero =>
    intro q out hq ho
    refine EvP.step (fun k => spec_l30Table.l2.eq_2 _ _ _ _ k) ?_
    simp only [if_neg (show ¬ (q : Int) < (rows.length : Int) by omega)]
    rw [List.drop_eq_nil_of_le (by omega)]
    exact EvP.now (by simp)
  | succ d ih =>
    intro q out hq ho
    have hql : q < rows.length := by omega
    obtain ⟨h12, hcc⟩ := hc _ (List.getElem_mem hql)
    have h := ih (q + 1) (out ++ [lineOf ws rows[q]]) (by omega) (by rw [List.length_append, ho]; rfl)
    refine EvP.step (fun k => spec_l30Table.l2.eq_2 _ _ _ _ k) ?_
    simp only [if_pos (show (q : Int) < (rows.length : Int) by omega)]
    have e : out ++ (rows.drop q).map (lineOf ws) = out ++ [lineOf ws rows[q]] ++ (rows.drop (q + 1)).map (lineOf ws) := by
      rw [List.drop_eq_getElem_cons hql, List.map_cons, List.append_assoc, List.singleton_append]
    rw [e]
    exact cells_ev M hM rows ws hws hw out (by omega) q hql hl _ rfl h12 hcc (txt ws rows[q] 0) h rows[q].length 0 ⟨#[]⟩ [] (by omega) (Or.inl ⟨rfl, rfl⟩) (by simp) rfl
theorem table_ev (M : Nat) (hM : M ≤ 1048576) (rows : List (List ByteArray)) (hl : rows.length ≤ 1048576) (hr : ∀ r ∈ rows, RowOk M r) :
    ∃ ls : List ByteArray, ls.length = rows.length ∧ (∀ x ∈ ls, x.size ≤ 12 * (M + 2)) ∧ Ev (fun k => spec_l30Table.f k rows) ls ∧ ∀ r, Ev (fun k => impl_reportOrFull.f k ls) r → Ev (fun k => impl_TableLines.f k rows) r := by
  obtain ⟨w0, hw0⟩ : ∃ w0 : List Int, w0 = List.replicate 12 0 := ⟨_, rfl⟩
  have hl0 : w0.length = 12 := by rw [hw0]; rfl
  have hz : ∀ j : Nat, 0 ≤ rdOf 0 w0 (j : Int) ∧ rdOf 0 w0 (j : Int) ≤ M := by
    intro j
    have : rdOf 0 w0 (j : Int) = 0 := by
      rw [hw0]
      unfold rdOf
      simp only [Int.toNat_natCast, List.getD_eq_getElem?_getD, List.getElem?_replicate]
      split <;> rfl
    omega
  obtain ⟨ws, hws⟩ : ∃ ws, ws = wAll w0 rows := ⟨_, rfl⟩
  have hwl : ws.length = 12 := by rw [hws, wAll_len, hl0]
  have hw : ∀ j : Nat, 0 ≤ rdOf 0 ws (j : Int) ∧ rdOf 0 ws (j : Int) ≤ M := by rw [hws]; exact wAll_le M rows w0 hl0 hr hz
  have hc : ∀ r ∈ rows, r.length ≤ 12 ∧ ∀ (t : Nat) (ht : t < r.length), ((r[t]).size : Int) ≤ rdOf 0 ws (t : Int) := by
    intro r h
    refine ⟨(hr r h).1, ?_⟩
    rw [hws]
    exact wAll_cell rows w0 hl0 (fun r h => (hr r h).1) r h
  refine ⟨rows.map (lineOf ws), by simp, ?_, ?_, ?_⟩
  · intro x hx
    obtain ⟨r, h, rfl⟩ := List.mem_map.1 hx
    have h1 := txt_len M ws hw r 0 (fun t ht => by rw [Nat.zero_add]; exact (hc r h).2 t ht)
    have h2 := trim_len (txt ws r 0)
    have h3 : r.length * (M + 2) ≤ 12 * (M + 2) := Nat.mul_le_mul_right _ (hc r h).1
    rw [size_len']
    show (Lib.trimRightB (txt ws r 0) 32).length ≤ _
    omega
  · unfold spec_l30Table.f
    rw [← hw0]
    refine EvP.eq ?_
    refine spec_rows M hM rows hl hr rows.length 0 w0 (by omega) hl0 ?_
    rw [List.drop_zero, ← hws]
    have := lines_ev M hM rows hl ws hwl hw hc rows.length 0 [] (by omega) rfl
    simpa using this
  · intro r K
    unfold impl_TableLines.f
    rw [← hw0]
    refine Ev.bind (wrows_ev M hM rows w0 hr) ?_
    rw [← hws]
    simp only [linesT_eq M hM ws hw rows [] hc (by simpa using hl), Option.bind_some, List.nil_append]
    exact K
end Go.Proofs.YtadaegehdcngdaaDoor.PTable
end

section
namespace Go.Proofs.YtadaegehdcngdaaDoor.SU
open Go.RowKit Go.Proofs.YtadaegehdcngdaaDoorW.PrintWords Go.Proofs.YtadaegehdcngdaaDoor.XU Go.Proofs.YtadaegehdcngdaaDoor.EvK
set_option linter.unusedVariables false
set_option linter.unusedSimpArgs false
theorem szStringS_ev (l : List ByteArray) (left : Int) (h0 : 0 ≤ left) (h1 : left ≤ 1048576) (hq : (l.length ≤ maxLen ∧ ∀ y1 ∈ l, y1.size ≤ maxLen)) : EvP (fun k => laws_szStringS.f k l left) (fun t => t ≤ left ∧ (0 ≤ t → l.length ≤ 1048576 ∧ ∀ x ∈ l, x.size ≤ 1048576)) := by
  obtain ⟨hl, hq⟩ := hq
  unfold maxLen at hl
  unfold laws_szStringS.f
  rw [w64 (by omega) (by omega)]
  by_cases hc : left - (l.length : Int) < 0
  · simp only [if_pos hc]
    exact EvP.now ⟨by omega, by omega⟩
  simp only [if_neg hc]
  refine for_evp (L := fun k (s : Int) i => laws_szStringS.l0 k l s i) l.length (fun i s => 0 ≤ s ∧ s ≤ left - (l.length : Int) ∧ ∀ x ∈ l.take i, x.size ≤ 1048576) ?_ ?_ _ ⟨by omega, by omega, by simp⟩
  · rintro i s hi ⟨hs0, hs1, hs⟩ K
    have e : rdOf ByteArray.empty l (i : Int) = l[i] := getD_at l ByteArray.empty i hi
    refine EvP.step (fun k => laws_szStringS.l0.eq_2 _ _ _ k) ?_
    have hz := hq _ (List.getElem_mem hi)
    unfold maxLen at hz
    simp only [if_pos (show (i : Int) < (l.length : Int) by omega), if_pos (show (0 : Int) ≤ (i : Int) by omega), e, w64 (show -9223372036854775808 ≤ (i : Int) + 1 by omega) (by omega), w64 (show -9223372036854775808 ≤ s - (l[i].size : Int) by omega) (by omega)]
    by_cases hn : s - (l[i].size : Int) < 0
    · simp only [if_pos hn]
      exact EvP.now ⟨by omega, by omega⟩
    · simp only [if_neg hn]
      exact K _ ⟨by omega, by omega, take_all hi hs (by omega)⟩
  · rintro s ⟨hs0, hs1, hs⟩
    refine EvP.step (fun k => laws_szStringS.l0.eq_2 _ _ _ k) ?_
    simp only [if_neg (show ¬ (l.length : Int) < (l.length : Int) by omega)]
    exact EvP.now ⟨by omega, fun _ => ⟨by omega, by simpa using hs⟩⟩
end Go.Proofs.YtadaegehdcngdaaDoor.SU
end

section
namespace Go.Proofs.YtadaegehdcngdaaDoor.SU
open Go.RowKit Go.Proofs.YtadaegehdcngdaaDoorW.PrintWords Go.Proofs.YtadaegehdcngdaaDoor.XU Go.Proofs.YtadaegehdcngdaaDoor.EvK
set_option linter.unusedVariables false
set_option linter.unusedSimpArgs false
def toStringS_el (x : ByteArray) : ByteArray := x
theorem toStringS_ev (l : List ByteArray) (hl : l.length ≤ 1048576) : Ev (fun k => laws_toStringS.f k l) (l.map toStringS_el) := by
  apply EvP.eq
  unfold laws_toStringS.f
  simp only [if_pos (show (0 : Int) ≤ (l.length : Int) by omega), Int.toNat_natCast, if_pos (show l.length ≤ 17592186044416 by omega)]
  refine for_evp (L := fun k (s : List ByteArray) i => laws_toStringS.l0 k l s i) l.length (fun i s => s = (l.take i).map toStringS_el ++ List.replicate (l.length - i) (⟨#[]⟩ : ByteArray)) ?_ ?_ (List.replicate l.length (⟨#[]⟩ : ByteArray)) (by simp)
  · rintro i s hi rfl K
    have e : rdOf ByteArray.empty l (i : Int) = l[i] := getD_at l ByteArray.empty i hi
    have hlen := done_len toStringS_el l (⟨#[]⟩ : ByteArray) i (by omega)
    refine EvP.step (fun k => laws_toStringS.l0.eq_2 _ _ _ k) ?_
    simp only [if_pos (show (i : Int) < (l.length : Int) by omega), if_pos (show (0 : Int) ≤ (i : Int) by omega), e, hlen, w64 (show -9223372036854775808 ≤ (i : Int) + 1 by omega) (by omega), Int.toNat_natCast]
    refine K _ ?_
    show List.set _ i (toStringS_el l[i]) = _
    exact map_done toStringS_el l _ i hi
  · rintro s rfl
    refine EvP.step (fun k => laws_toStringS.l0.eq_2 _ _ _ k) ?_
    simp only [if_neg (show ¬ (l.length : Int) < (l.length : Int) by omega)]
    exact EvP.now (by simp)
end Go.Proofs.YtadaegehdcngdaaDoor.SU
end

section
namespace Go.Proofs.YtadaegehdcngdaaDoor.SU
open Go.RowKit Go.Proofs.YtadaegehdcngdaaDoorW.PrintWords Go.Proofs.YtadaegehdcngdaaDoor.XU Go.Proofs.YtadaegehdcngdaaDoor.EvK
set_option linter.unusedVariables false
set_option linter.unusedSimpArgs false
theorem eqStringS_ev (l : List ByteArray) (hl : l.length ≤ 1048576) : Ev (fun k => laws_eqStringS.f k l l) true := by
  apply EvP.eq
  unfold laws_eqStringS.f
  simp only [if_true]
  refine for_evp (L := fun k (s : Unit) i => laws_eqStringS.l0 k l l i) l.length (fun i s => True) ?_ ?_ () trivial
  · rintro i s hi - K
    refine EvP.step (fun k => laws_eqStringS.l0.eq_2 _ _ _ k) ?_
    simp only [if_pos (show (i : Int) < (l.length : Int) by omega), if_pos (show (0 : Int) ≤ (i : Int) by omega), if_true, w64 (show -9223372036854775808 ≤ (i : Int) + 1 by omega) (by omega)]
    exact K () trivial
  · rintro s -
    refine EvP.step (fun k => laws_eqStringS.l0.eq_2 _ _ _ k) ?_
    simp only [if_neg (show ¬ (l.length : Int) < (l.length : Int) by omega)]
    exact EvP.now rfl
end Go.Proofs.YtadaegehdcngdaaDoor.SU
end

section
namespace Go.Proofs.YtadaegehdcngdaaDoor.SU
open Go.RowKit Go.Proofs.YtadaegehdcngdaaDoorW.PrintWords Go.Proofs.YtadaegehdcngdaaDoor.XU Go.Proofs.YtadaegehdcngdaaDoor.EvK
set_option linter.unusedVariables false
set_option linter.unusedSimpArgs false
theorem markText_ev (c : Int) (h0 : 0 ≤ c) (h1 : c ≤ 4611686018427387904) : ∃ s : ByteArray, Ev (fun k => laws_markText.f k c) s := by
  unfold laws_markText.f
  by_cases hc : c ≤ 0
  · simp only [if_pos hc]
    exact ⟨_, Ev.now _⟩
  simp only [if_neg hc]
  have key : ∀ (d : Nat) (x : Int) (y : ByteArray), 0 ≤ x → x ≤ d → y.size + d ≤ 9223372036854775000 → ∃ s : ByteArray, Ev (fun k => laws_markText.l0 k x y) s := by
    intro d
    induction d using Nat.strongRecOn with
    | _ d ih =>
    intro x y hx hd hy
    by_cases hp : x > 0
    · have hz : (strOfNums [(wrap64 (48 + Int.tmod x 10)) % 256]).size = 1 := rfl
      have hd' : Int.tdiv x 10 = x / 10 := Int.tdiv_eq_ediv_of_nonneg hx
      have hw : wrap64 (Int.tdiv x 10) = x / 10 := by rw [hd', w64 (by omega) (by omega)]
      obtain ⟨s, hs⟩ := ih (d - 1) (by omega) (x / 10) (strOfNums [(wrap64 (48 + Int.tmod x 10)) % 256] ++ y) (by omega) (by omega) (by rw [ByteArray.size_append, hz]; omega)
      refine ⟨s, Ev.step (fun k => laws_markText.l0.eq_2 _ _ k) ?_⟩
      simp only [if_pos hp, Option.bind_some, hz, if_pos (show 1 + y.size ≤ 9223372036854775807 by omega), hw]
      exact hs
    · refine ⟨(⟨#[109]⟩ : ByteArray) ++ y, Ev.step (fun k => laws_markText.l0.eq_2 _ _ k) ?_⟩
      simp only [if_neg hp, if_pos (show 1 + y.size ≤ 9223372036854775807 by omega)]
      exact Ev.now _
  exact key c.toNat c ⟨#[]⟩ h0 (by omega) (by show 0 + _ ≤ _; omega)
end Go.Proofs.YtadaegehdcngdaaDoor.SU
end

section
namespace Go.Proofs.YtadaegehdcngdaaDoor.SU
open Go.RowKit Go.Proofs.YtadaegehdcngdaaDoorW.PrintWords Go.Proofs.YtadaegehdcngdaaDoor.XU Go.Proofs.YtadaegehdcngdaaDoor.EvK
set_option linter.unusedVariables false
set_option linter.unusedSimpArgs false
theorem markStringS_ev (l : List ByteArray) (c : Int) (h0 : 0 ≤ c) (h1 : c + (l.length : Int) ≤ 4611686018427387904) :
    ∃ y : List ByteArray, Ev (fun k => laws_markStringS.f k l c) (c + (l.length : Int), y) ∧ Ev (fun k => laws_heldStringS.f k y c) (c + (l.length : Int)) ∧ y.length = l.length := by
  obtain ⟨T, hT⟩ : ∃ T : Int → ByteArray, ∀ x : Int, 0 ≤ x → x ≤ 4611686018427387904 → Ev (fun k => laws_markText.f k x) (T x) := ⟨fun x => if h : 0 ≤ x ∧ x ≤ 4611686018427387904 then Classical.choose (markText_ev x h.1 h.2) else ByteArray.empty, fun x h h' => by simp only [h, h', and_self, dif_pos]; exact Classical.choose_spec (markText_ev x h h')⟩
  let E : Nat → ByteArray := fun j => T (c + (j : Int))
  have hset : ∀ (i : Nat) (h : i < l.length), ((List.range i).map E ++ l.drop i).set i (E i) = (List.range (i + 1)).map E ++ l.drop (i + 1) := fun i h => set_done E l i h
  have hlen : ∀ (i : Nat), i ≤ l.length → ((List.range i).map E ++ l.drop i).length = l.length := by intro i h; simp; omega
  refine ⟨(List.range l.length).map E, EvP.eq ?_, EvP.eq ?_, by simp⟩
  · unfold laws_markStringS.f
    refine for_evp (L := fun k (s : List ByteArray × Int) i => laws_markStringS.l0 k s.1 s.2 i) l.length (fun i s => s = ((List.range i).map E ++ l.drop i, c + (i : Int))) ?_ ?_ (l, c) (by simp)
    · rintro i s hi rfl K
      refine EvP.step (fun k => laws_markStringS.l0.eq_2 _ _ _ k) ?_
      simp only [hlen i (by omega), if_pos (show (i : Int) < (l.length : Int) by omega), if_pos (show (0 : Int) ≤ (i : Int) by omega), Option.bind_some, w64 (show -9223372036854775808 ≤ (i : Int) + 1 by omega) (by omega), w64 (show -9223372036854775808 ≤ c + (i : Int) + 1 by omega) (by omega), Int.toNat_natCast]
      refine EvP.bind (hT (c + (i : Int)) (by omega) (by omega)) ?_
      refine K (_, _) ?_
      rw [← hset i hi, Prod.mk.injEq]
      refine ⟨?_, by push_cast; omega⟩
      have g1 := hlen i (by omega)
      generalize (List.range i).map E ++ l.drop i = L at g1
      have g2 : i < L.length := by omega
      first | rfl | (simp [E, getD_set_self, g2])
    · rintro s rfl
      refine EvP.step (fun k => laws_markStringS.l0.eq_2 _ _ _ k) ?_
      simp only [hlen l.length (Nat.le_refl _), if_neg (show ¬ (l.length : Int) < (l.length : Int) by omega)]
      exact EvP.now (by simp)
  · unfold laws_heldStringS.f
    have hl2 : ((List.range l.length).map E).length = l.length := by simp
    refine for_evp (L := fun k (s : Int) i => laws_heldStringS.l0 k ((List.range l.length).map E) s i) l.length (fun i s => s = c + (i : Int)) ?_ ?_ c (by simp)
    · rintro i s hi rfl K
      have e : rdOf ByteArray.empty ((List.range l.length).map E) (i : Int) = E i := by
        rw [show rdOf ByteArray.empty ((List.range l.length).map E) (i : Int) = ((List.range l.length).map E)[i]'(by simpa using hi) from getD_at _ ByteArray.empty i (by simpa using hi)]; simp
      refine EvP.step (fun k => laws_heldStringS.l0.eq_2 _ _ _ k) ?_
      simp only [hl2, if_pos (show (i : Int) < (l.length : Int) by omega), if_pos (show (0 : Int) ≤ (i : Int) by omega), e, E, if_true, w64 (show -9223372036854775808 ≤ (i : Int) + 1 by omega) (by omega), w64 (show -9223372036854775808 ≤ c + (i : Int) + 1 by omega) (by omega)]
      refine EvP.bind (hT (c + (i : Int)) (by omega) (by omega)) ?_
      simp only [if_true]
      exact K _ (by push_cast; omega)
    · rintro s rfl
      refine EvP.step (fun k => laws_heldStringS.l0.eq_2 _ _ _ k) ?_
      simp only [hl2, if_neg (show ¬ (l.length : Int) < (l.length : Int) by omega)]
      exact EvP.now rfl
end Go.Proofs.YtadaegehdcngdaaDoor.SU
end

section
namespace Go.Proofs.YtadaegehdcngdaaDoor.PNest
open Go.RowKit Go.Proofs.YtadaegehdcngdaaDoorW.PrintWords Go.Proofs.YtadaegehdcngdaaDoorW.PrintMore Go.Proofs.YtadaegehdcngdaaDoor.XU Go.Proofs.YtadaegehdcngdaaDoor.EvK Go.Proofs.YtadaegehdcngdaaDoor.SU
set_option linter.unusedVariables false
set_option linter.unusedSimpArgs false
theorem rdL (rows : List (List ByteArray)) (q : Nat) (hq : q < rows.length) : rd_L1 rows (q : Int) = rows[q] := by
  unfold rd_L1
  simp [List.getD_eq_getElem?_getD, List.getElem?_eq_getElem hq]
def Small (rows : List (List ByteArray)) : Prop := rows.length ≤ 1048576 ∧ ∀ r ∈ rows, r.length ≤ 1048576 ∧ ∀ x ∈ r, x.size ≤ 1048576
theorem sz_ev (l : List (List ByteArray)) (left : Int) (h0 : 0 ≤ left) (h1 : left ≤ 1048576) (hq : (l.length ≤ maxLen ∧ ∀ y ∈ l, (y.length ≤ maxLen ∧ ∀ z ∈ y, z.size ≤ maxLen))) : EvP (fun k => laws_szStringSS.f k l left) (fun t => t ≤ left ∧ (0 ≤ t → Small l)) := by
  obtain ⟨hl, hq⟩ := hq
  unfold maxLen at hl
  unfold laws_szStringSS.f
  rw [w64 (by omega) (by omega)]
  by_cases hc : left - (l.length : Int) < 0
  · simp only [if_pos hc]
    exact EvP.now ⟨by omega, by omega⟩
  simp only [if_neg hc]
  refine for_evp (L := fun k (s : Int) i => laws_szStringSS.l0 k l s i) l.length (fun i s => 0 ≤ s ∧ s ≤ left - (l.length : Int) ∧ ∀ x ∈ l.take i, x.length ≤ 1048576 ∧ ∀ y ∈ x, y.size ≤ 1048576) ?_ ?_ _ ⟨by omega, by omega, by simp⟩
  · rintro i s hi ⟨hs0, hs1, hs⟩ K
    refine EvP.step (fun k => laws_szStringSS.l0.eq_2 _ _ _ k) ?_
    simp only [if_pos (show (i : Int) < (l.length : Int) by omega), if_pos (show (0 : Int) ≤ (i : Int) by omega), rdL l i hi]
    refine EvP.bindP (szStringS_ev l[i] s hs0 (by omega) (hq _ (List.getElem_mem hi))) ?_
    intro t ht
    by_cases hn : t < 0
    · simp only [if_pos hn]
      exact EvP.now ⟨by omega, by omega⟩
    · simp only [if_neg hn, w64 (show -9223372036854775808 ≤ (i : Int) + 1 by omega) (by omega)]
      exact K _ ⟨by omega, by omega, take_all hi hs (ht.2 (by omega))⟩
  · rintro s ⟨hs0, hs1, hs⟩
    refine EvP.step (fun k => laws_szStringSS.l0.eq_2 _ _ _ k) ?_
    simp only [if_neg (show ¬ (l.length : Int) < (l.length : Int) by omega)]
    exact EvP.now ⟨by omega, fun _ => ⟨by omega, by simpa using hs⟩⟩
theorem to_ev (l : List (List ByteArray)) (hs : Small l) : Ev (fun k => laws_toStringSS.f k l) l := by
  obtain ⟨h1, h2⟩ := hs
  unfold laws_toStringSS.f
  simp only [if_pos (show (0 : Int) ≤ (l.length : Int) by omega), Int.toNat_natCast, if_pos (show l.length ≤ 11728124029610 by omega)]
  have K : ∀ d i : Nat, i + d = l.length → Ev (fun k => laws_toStringSS.l0 k l (l.take i ++ List.replicate d []) (i : Int)) l := by
    intro d
    induction d with
    | zero =>
      intro i hi
      refine Ev.step (fun k => laws_toStringSS.l0.eq_2 _ _ _ k) ?_
      simp only [if_neg (show ¬ (i : Int) < (l.length : Int) by omega)]
      rw [show l.take i ++ List.replicate 0 [] = l by rw [List.take_of_length_le (by omega)]; simp]
      exact Ev.now _
    | succ d ih =>
      intro i hi
      have hil : i < l.length := by omega
      obtain ⟨h3, h4⟩ := h2 l[i] (List.getElem_mem hil)
      have ht := toStringS_ev l[i] h3
      rw [show l[i].map toStringS_el = l[i] from List.map_id _] at ht
      refine Ev.step (fun k => laws_toStringSS.l0.eq_2 _ _ _ k) ?_
      simp only [if_pos (show (i : Int) < (l.length : Int) by omega), if_pos (show (0 : Int) ≤ (i : Int) by omega), rdL l i hil]
      refine Ev.bind ht ?_
      simp only [if_pos (show (i : Int) < ((l.take i ++ List.replicate (d + 1) []).length : Int) by simp; omega), w64 (show -9223372036854775808 ≤ (i : Int) + 1 by omega) (by omega), Int.toNat_natCast]
      have := ih (i + 1) (by omega)
      rw [show l.take (i + 1) ++ List.replicate d [] = (l.take i ++ List.replicate (d + 1) []).set i l[i] by
        rw [List.take_succ_eq_append_getElem hil, List.replicate_succ, List.set_append_right _ _ (by simp; omega)]
        simp only [List.length_take, show i - min i l.length = 0 by omega, List.set_cons_zero, List.append_assoc, List.singleton_append]] at this
      exact this
  have := K l.length 0 (by omega)
  simpa using this
theorem eq_ev (l : List (List ByteArray)) (hs : Small l) : Ev (fun k => laws_eqStringSS.f k l l) true := by
  obtain ⟨h1, h2⟩ := hs
  unfold laws_eqStringSS.f
  simp only [if_true]
  have := all_ev (L := fun k i => laws_eqStringSS.l0 k l l i) l (fun _ => true) true ?_ ?_ ?_
  · rwa [show (l.all (fun _ => true) && true) = true by simp] at this
  · intro i hi _ P K
    refine EvP.step (fun k => laws_eqStringSS.l0.eq_2 _ _ _ k) ?_
    simp only [if_pos (show (i : Int) < (l.length : Int) by omega), if_pos (show (0 : Int) ≤ (i : Int) by omega), rdL l i hi]
    refine EvP.bind (eqStringS_ev l[i] (h2 _ (List.getElem_mem hi)).1) ?_
    simp only [if_true, w64 (show -9223372036854775808 ≤ (i : Int) + 1 by omega) (by omega)]
    exact K
  · intro i hi h
    exact absurd h (by simp)
  · refine Ev.step (fun k => laws_eqStringSS.l0.eq_2 _ _ _ k) ?_
    simp only [if_neg (show ¬ (l.length : Int) < (l.length : Int) by omega)]
    exact Ev.now _
theorem mark_ev (l : List (List ByteArray)) (hs : Small l) (c : Int) (h0 : 0 ≤ c) (hc : c + (l.length : Int) * 1048576 ≤ 4611686018427387904) : ∃ (c2 : Int) (y : List (List ByteArray)), Ev (fun k => laws_markStringSS.f k l c) (c2, y) ∧ 0 ≤ c2 := by
  obtain ⟨h1, h2⟩ := hs
  have K : ∀ d i : Nat, i + d = l.length → ∀ (x : List (List ByteArray)) (a : Int), x.length = l.length → (∀ j, i ≤ j → x.getD j [] = l.getD j []) → 0 ≤ a → a + (d : Int) * 1048576 ≤ 4611686018427387904 → ∃ (c2 : Int) (y : List (List ByteArray)), Ev (fun k => laws_markStringSS.l0 k x a (i : Int)) (c2, y) ∧ 0 ≤ c2 := by
    intro d
    induction d with
    | zero =>
      intro i hi x a hx _ ha _
      refine ⟨a, x, ?_, ha⟩
      refine Ev.step (fun k => laws_markStringSS.l0.eq_2 _ _ _ k) ?_
      simp only [if_neg (show ¬ (i : Int) < (x.length : Int) by omega)]
      exact Ev.now _
    | succ d ih =>
      intro i hi x a hx he ha hb
      have hil : i < l.length := by omega
      have hxi : x.getD i [] = l[i] := by rw [he i (Nat.le_refl _)]; simp [hil]
      obtain ⟨h3, _⟩ := h2 l[i] (List.getElem_mem hil)
      obtain ⟨y, hy, hy2, _⟩ := markStringS_ev l[i] a ha (by omega)
      obtain ⟨c2, z, hz, hz0⟩ := ih (i + 1) (by omega) (x.set i y) (a + (l[i].length : Int)) (by simpa using hx) (fun j hj => by
        rw [← he j (by omega)]
        simp only [List.getD_eq_getElem?_getD, List.getElem?_set]
        rw [if_neg (by omega)]) (by omega) (by omega)
      refine ⟨c2, z, ?_, hz0⟩
      refine Ev.step (fun k => laws_markStringSS.l0.eq_2 _ _ _ k) ?_
      simp only [if_pos (show (i : Int) < (x.length : Int) by omega), if_pos (show (0 : Int) ≤ (i : Int) by omega), Int.toNat_natCast, hxi]
      refine Ev.bind hy ?_
      simp only [w64 (show -9223372036854775808 ≤ (i : Int) + 1 by omega) (by omega)]
      exact hz
  obtain ⟨c2, y, h, h0'⟩ := K l.length 0 (by omega) l c rfl (fun _ _ => rfl) h0 (by omega)
  exact ⟨c2, y, h, h0'⟩
end Go.Proofs.YtadaegehdcngdaaDoor.PNest
end

section
namespace Go.Proofs.YtadaegehdcngdaaDoor.PureFnExactTableLines
open Go.RowKit Go.Proofs.YtadaegehdcngdaaDoorW.PrintWords Go.Proofs.YtadaegehdcngdaaDoorW.PrintMore Go.Proofs.YtadaegehdcngdaaDoor.XU Go.Proofs.YtadaegehdcngdaaDoor.EvK Go.Proofs.YtadaegehdcngdaaDoor.LinesU Go.Proofs.YtadaegehdcngdaaDoor.SU Go.Proofs.YtadaegehdcngdaaDoor.PTable
set_option linter.unusedVariables false
set_option linter.unusedSimpArgs false
def cellsOk (r : List ByteArray) : Bool := r.all (fun c => within c 33 126)
def rowGood (r : List ByteArray) : Bool := decide (r.length ≤ 12) && cellsOk r
def okB (c : UInt8) : Bool := okByte 33 126 c
theorem all_step {α ρ : Type} {L : Nat → Int → Option ρ} (l : List α) (p : α → Bool) {P : ρ → Prop} (h : l.all p = true)
    (step : ∀ (i : Nat) (h : i < l.length), p l[i] = true → ∀ P, EvP (fun k => L k ((i : Int) + 1)) P → EvP (fun k => L k i) P)
    (K : EvP (fun k => L k l.length) P) : EvP (fun k => L k 0) P := by
  obtain ⟨r, hr, hp⟩ := K
  have := all_to (L := L) l p r r step (fun i hi hf => absurd (List.all_eq_true.1 h _ (List.getElem_mem hi)) (by simp [hf])) (fun _ => hr)
  rw [if_pos h] at this
  exact EvP.of this hp
theorem some_stop {α ρ : Type} {L : Nat → Int → Option ρ} (l : List α) (p : α → Bool) (no : ρ) (h : l.all p = false)
    (step : ∀ (i : Nat) (h : i < l.length), p l[i] = true → ∀ P, EvP (fun k => L k ((i : Int) + 1)) P → EvP (fun k => L k i) P)
    (stop : ∀ (i : Nat) (h : i < l.length), p l[i] = false → Ev (fun k => L k i) no) : Ev (fun k => L k 0) no := by
  have := all_to (L := L) l p no no step stop (fun e => by rw [h] at e; cases e)
  rw [if_neg (by rw [h]; simp)] at this
  exact this
section
variable (rows : List (List ByteArray)) (hl : rows.length ≤ 1048576) (hs : ∀ r ∈ rows, r.length ≤ 1048576 ∧ ∀ c ∈ r, c.size ≤ 1048576)
include hl hs
theorem byte_step (q : Nat) (hq : q < rows.length) (t : Nat) (ht : t < rows[q].length) (i : Nat) (hi : i < rows[q][t].data.toList.length) (hp : okB rows[q][t].data.toList[i] = true) (P : Bool → Prop)
    (K : EvP (fun k => spec_l30Rows.l2 k rows q t ((i : Int) + 1)) P) : EvP (fun k => spec_l30Rows.l2 k rows q t i) P := by
  have _h := hl
  have h3 := (hs _ (List.getElem_mem hq)).2 _ (List.getElem_mem ht)
  have h4 := (hs _ (List.getElem_mem hq)).1
  rw [size_len'] at h3
  have e : rdOf ByteArray.empty rows[q] (t : Int) = rows[q][t] := rdOf_at _ _ t ht
  simp only [okB, okByte, Bool.and_eq_true, decide_eq_true_eq] at hp
  refine EvP.step (fun k => spec_l30Rows.l2.eq_2 _ _ _ _ k) ?_
  simp only [rdL rows q hq, e, size_len, bytes_at_ _ i hi, if_pos (show (0 : Int) ≤ (q : Int) by omega), if_pos (show (q : Int) < (rows.length : Int) by omega), if_pos (show (0 : Int) ≤ (t : Int) by omega), if_pos (show (t : Int) < ((rows[q]).length : Int) by omega), if_pos (show (i : Int) < ((rows[q][t]).data.toList.length : Int) by omega), if_pos (show (0 : Int) ≤ (i : Int) by omega), if_neg (show ¬ (((rows[q][t]).data.toList[i].toNat : Int) < 33) by omega), if_neg (show ¬ (((rows[q][t]).data.toList[i].toNat : Int) > 126) by omega), w64 (show -9223372036854775808 ≤ (i : Int) + 1 by omega) (by omega)]
  exact K
theorem byte_stop (q : Nat) (hq : q < rows.length) (t : Nat) (ht : t < rows[q].length) (i : Nat) (hi : i < rows[q][t].data.toList.length) (hp : okB rows[q][t].data.toList[i] = false) : Ev (fun k => spec_l30Rows.l2 k rows q t i) false := by
  have _h := hl
  have _h2 := hs
  have e : rdOf ByteArray.empty rows[q] (t : Int) = rows[q][t] := rdOf_at _ _ t ht
  simp only [okB, okByte, Bool.and_eq_false_iff, decide_eq_false_iff_not] at hp
  refine Ev.step (fun k => spec_l30Rows.l2.eq_2 _ _ _ _ k) ?_
  simp only [rdL rows q hq, e, size_len, bytes_at_ _ i hi, if_pos (show (0 : Int) ≤ (q : Int) by omega), if_pos (show (q : Int) < (rows.length : Int) by omega), if_pos (show (0 : Int) ≤ (t : Int) by omega), if_pos (show (t : Int) < ((rows[q]).length : Int) by omega), if_pos (show (i : Int) < ((rows[q][t]).data.toList.length : Int) by omega), if_pos (show (0 : Int) ≤ (i : Int) by omega)]
  by_cases h1 : ((rows[q][t]).data.toList[i].toNat : Int) < 33
  · simp only [if_pos h1]; exact Ev.now _
  · simp only [if_neg h1, if_pos (show ((rows[q][t]).data.toList[i].toNat : Int) > 126 by omega)]; exact Ev.now _
theorem cell_step (q : Nat) (hq : q < rows.length) (t : Nat) (ht : t < rows[q].length) (hp : within rows[q][t] 33 126 = true) (P : Bool → Prop)
    (K : EvP (fun k => spec_l30Rows.l1 k rows q ((t : Int) + 1)) P) : EvP (fun k => spec_l30Rows.l1 k rows q t) P := by
  have h4 := (hs _ (List.getElem_mem hq)).1
  have e : rdOf ByteArray.empty rows[q] (t : Int) = rows[q][t] := rdOf_at _ _ t ht
  refine EvP.step (fun k => spec_l30Rows.l1.eq_2 _ _ _ k) ?_
  simp only [rdL rows q hq, if_pos (show (0 : Int) ≤ (q : Int) by omega), if_pos (show (q : Int) < (rows.length : Int) by omega), if_pos (show (t : Int) < ((rows[q]).length : Int) by omega)]
  refine all_step (L := fun k i => spec_l30Rows.l2 k rows q t i) rows[q][t].data.toList okB hp (byte_step rows hl hs q hq t ht) ?_
  refine EvP.step (fun k => spec_l30Rows.l2.eq_2 _ _ _ _ k) ?_
  simp only [rdL rows q hq, e, size_len, if_pos (show (0 : Int) ≤ (q : Int) by omega), if_pos (show (q : Int) < (rows.length : Int) by omega), if_pos (show (0 : Int) ≤ (t : Int) by omega), if_pos (show (t : Int) < ((rows[q]).length : Int) by omega), if_neg (show ¬ ((rows[q][t]).data.toList.length : Int) < ((rows[q][t]).data.toList.length : Int) by omega), w64 (show -9223372036854775808 ≤ (t : Int) + 1 by omega) (by omega)]
  exact K
theorem cell_stop (q : Nat) (hq : q < rows.length) (t : Nat) (ht : t < rows[q].length) (hp : within rows[q][t] 33 126 = false) : Ev (fun k => spec_l30Rows.l1 k rows q t) false := by
  refine Ev.step (fun k => spec_l30Rows.l1.eq_2 _ _ _ k) ?_
  simp only [rdL rows q hq, if_pos (show (0 : Int) ≤ (q : Int) by omega), if_pos (show (q : Int) < (rows.length : Int) by omega), if_pos (show (t : Int) < ((rows[q]).length : Int) by omega)]
  exact some_stop (L := fun k i => spec_l30Rows.l2 k rows q t i) rows[q][t].data.toList okB false hp (byte_step rows hl hs q hq t ht) (byte_stop rows hl hs q hq t ht)
theorem rows_ev : Ev (fun k => spec_l30Rows.f k rows) (rows.all rowGood) := by
  unfold spec_l30Rows.f
  have := all_ev (L := fun k i => spec_l30Rows.l0 k rows i) rows rowGood true ?_ ?_ ?_
  · simpa using this
  · intro q hq hp P K
    simp only [rowGood, Bool.and_eq_true, decide_eq_true_eq] at hp
    refine EvP.step (fun k => spec_l30Rows.l0.eq_2 _ _ k) ?_
    simp only [rdL rows q hq, if_pos (show (q : Int) < (rows.length : Int) by omega), if_pos (show (0 : Int) ≤ (q : Int) by omega), if_neg (show ¬ ((rows[q]).length : Int) > 12 by omega)]
    refine all_step (L := fun k i => spec_l30Rows.l1 k rows q i) rows[q] (fun c => within c 33 126) hp.2 (fun t ht hp P K => cell_step rows hl hs q hq t ht hp P K) ?_
    refine EvP.step (fun k => spec_l30Rows.l1.eq_2 _ _ _ k) ?_
    simp only [rdL rows q hq, if_pos (show (0 : Int) ≤ (q : Int) by omega), if_pos (show (q : Int) < (rows.length : Int) by omega), if_neg (show ¬ ((rows[q]).length : Int) < ((rows[q]).length : Int) by omega), w64 (show -9223372036854775808 ≤ (q : Int) + 1 by omega) (by omega)]
    exact K
  · intro q hq hp
    refine Ev.step (fun k => spec_l30Rows.l0.eq_2 _ _ k) ?_
    simp only [rdL rows q hq, if_pos (show (q : Int) < (rows.length : Int) by omega), if_pos (show (0 : Int) ≤ (q : Int) by omega)]
    by_cases h12 : ((rows[q]).length : Int) > 12
    · simp only [if_pos h12]
      exact Ev.now _
    · simp only [if_neg h12]
      have hc : cellsOk rows[q] = false := by
        simp only [rowGood, Bool.and_eq_false_iff, decide_eq_false_iff_not] at hp
        rcases hp with hp | hp
        · omega
        · exact hp
      exact some_stop (L := fun k i => spec_l30Rows.l1 k rows q i) rows[q] (fun c => within c 33 126) false hc (fun t ht hp P K => cell_step rows hl hs q hq t ht hp P K) (fun t ht hp => cell_stop rows hl hs q hq t ht hp)
  · refine Ev.step (fun k => spec_l30Rows.l0.eq_2 _ _ k) ?_
    simp only [if_neg (show ¬ (rows.length : Int) < (rows.length : Int) by omega)]
    exact Ev.now _
end
theorem wrow_bad : ∀ (l : List ByteArray) (i : Nat) (ws : List Int), (∀ c ∈ l, c.size ≤ 1048576) → cellsOk l = false → Ev (fun k => impl_TableLines.wrow k l i ws) none
  | [], i, ws, _, h => by simp [cellsOk] at h
  | c :: l, i, ws, hs, h => by
    show Ev (fun k => (impl_bytesWithin.f k c 33 126).bind fun b => if b = true then impl_TableLines.wrow k l (i + 1) (ws.set i (impl_TableLines.big ws i c)) else some none) _
    refine Ev.bind (bytesWithin_ev c 33 126 (hs c (by simp))) ?_
    cases hc : within c 33 126 with
    | true =>
      simp only [if_true]
      exact wrow_bad l (i + 1) _ (fun x hx => hs x (by simp [hx])) (by simpa [cellsOk, hc] using h)
    | false =>
      simp only [Bool.false_eq_true, if_false]
      exact Ev.now _
theorem wrows_bad : ∀ (rows : List (List ByteArray)) (ws : List Int), (∀ r ∈ rows, ∀ c ∈ r, c.size ≤ 1048576) → rows.all rowGood = false → Ev (fun k => impl_TableLines.wrows k rows ws) none
  | [], ws, _, h => by simp at h
  | r :: rows, ws, hs, h => by
    show Ev (fun k => if r.length ≤ 12 then (impl_TableLines.wrow k r 0 ws).bind fun o => match o with | none => some none | some ws' => impl_TableLines.wrows k rows ws' else some none) _
    by_cases h12 : r.length ≤ 12
    · simp only [if_pos h12]
      cases hc : cellsOk r with
      | true =>
        refine Ev.bind (wrow_ev 1048576 (by omega) r 0 ws (fun c hm => ⟨List.all_eq_true.1 hc c hm, hs r (by simp) c hm⟩)) ?_
        exact wrows_bad rows _ (fun r hr => hs r (by simp [hr])) (by simpa [rowGood, hc, h12] using h)
      | false =>
        exact Ev.bind (wrow_bad r 0 ws (hs r (by simp)) hc) (Ev.now _)
    · simp only [if_neg h12]
      exact Ev.now _
theorem both (rows : List (List ByteArray)) (h : PNest.Small rows) : ∃ r : List ByteArray × Int, r.1.length ≤ 1048576 ∧ Ev (fun k => spec_TableLines.f k rows) r ∧ Ev (fun k => impl_TableLines.f k rows) r := by
  obtain ⟨hl, hs⟩ := h
  have hr := rows_ev rows hl hs
  cases hg : rows.all rowGood with
  | false =>
    refine ⟨([], 2), by simp, ?_, ?_⟩
    · unfold spec_TableLines.f
      rw [hg] at hr
      refine Ev.bind hr ?_
      simp only [Bool.false_eq_true, if_false]
      exact Ev.now _
    · unfold impl_TableLines.f
      exact Ev.bind (wrows_bad rows _ (fun r hr => (hs r hr).2) hg) (Ev.now _)
  | true =>
    have hro : ∀ r ∈ rows, RowOk 1048576 r := by
      intro r hm
      have := List.all_eq_true.1 hg r hm
      simp only [rowGood, Bool.and_eq_true, decide_eq_true_eq] at this
      exact ⟨this.1, fun c hc => ⟨List.all_eq_true.1 this.2 c hc, (hs r hm).2 c hc⟩⟩
    obtain ⟨ls, h1, h2, h3, h4⟩ := table_ev 1048576 (by omega) rows hl hro
    have hb : ∀ x ∈ ls, x.size ≤ 100000000 := fun x hx => by have := h2 x hx; omega
    have d1 : Ev (fun k => spec_l30Done.f k ls) (if repOk ls = true then (ls, 0) else ([], 5)) := by
      unfold spec_l30Done.f
      refine Ev.bind (LinesB.spec_rep_ev ls (by omega) hb) ?_
      split <;> exact Ev.now _
    have d2 : Ev (fun k => impl_reportOrFull.f k ls) (if repOk ls = true then (ls, 0) else ([], 5)) := by
      unfold impl_reportOrFull.f
      refine Ev.bind (LinesB.impl_rep_ev ls (by omega) hb) ?_
      split <;> exact Ev.now _
    refine ⟨if repOk ls = true then (ls, 0) else ([], 5), ?_, ?_, h4 _ d2⟩
    · split
      · show ls.length ≤ _; omega
      · simp
    · unfold spec_TableLines.f
      rw [hg] at hr
      refine Ev.bind hr ?_
      simp only [if_true]
      refine Ev.bind h3 (Ev.bind d1 ?_)
      exact Ev.now _
theorem pure : laws_FnExactTableLines.Pure := by
  intro l hq
  apply EvP.rounds
  unfold laws_FnExactTableLines.f
  refine EvP.bindP (PNest.sz_ev l 1048576 (by omega) (by omega) hq) ?_
  intro t ht
  by_cases hn : t < 0
  · simp only [if_pos hn]
    exact EvP.now rfl
  simp only [if_neg hn]
  have hs := ht.2 (by omega)
  have hto := PNest.to_ev l hs
  have hes := PNest.eq_ev l hs
  obtain ⟨r, r1, r2, r3⟩ := both l hs
  have her := eqStringS_ev r.1 r1
  obtain ⟨c2, z, hz, hz0⟩ := PNest.mark_ev l hs 1 (by omega) (by have := hs.1; omega)
  obtain ⟨y, hy1, hy2, hy3⟩ := markStringS_ev r.1 1 (by omega) (by omega)
  refine EvP.bind hto (EvP.bind r2 (EvP.bind hto (EvP.bind r3 (EvP.bind her ?_))))
  simp only [if_true, eq_self_iff_true]
  refine EvP.bind hto (EvP.bind hes ?_)
  simp only [if_true]
  refine EvP.bind hz ?_
  simp only [if_pos (show ¬ (c2 < 0) by omega)]
  refine EvP.bind her ?_
  simp only [if_true, eq_self_iff_true]
  refine EvP.bind hy1 (EvP.bind hy2 ?_)
  simp only [if_pos (show ¬ (1 + (r.1.length : Int) < 0) by omega), if_true, eq_self_iff_true]
  refine EvP.bind hto (EvP.bind r3 (EvP.bind her ?_))
  simp only [if_true, eq_self_iff_true]
  refine EvP.bind hy2 ?_
  simp only [if_pos (show ¬ (1 + (r.1.length : Int) < 0) by omega), if_true, eq_self_iff_true]
  exact EvP.now rfl
end Go.Proofs.YtadaegehdcngdaaDoor.PureFnExactTableLines
end

section
namespace Go.Proofs.YtadaegehdcngdaaDoor.LaidKit
open Go Go.RowKit
theorem returns_laid_shaped {H : Type} {enc : TypeId × Value → H} {a : Assume} {C : Checked} {os : Os} {f : FuncId} {fn : Func} {s : ChangeSpec} {conds : List PathCond} {apart fresh handsOn again : Bool} {X : World → Array Value → Prop}
    (hX : ∀ (w w' : World) (args : Array Value), w.heap = w'.heap → X w args → X w' args)
    (own : ownKnob C.prog.godebug = none) (started : os.Started) (noInit : C.prog.inits.idxOf? f = none) (hfn : C.prog.funcs[f]? = some fn)
    (witness : ∃ (w : World) (tape : Tape) (i : Input), w.os = os ∧ (w.forCall tape i).Shaped C.prog ∧ i.vars = [] ∧ Input.okWide C.prog (w.forCall tape i) .any w.heap.size f i ∧
      ((s.pre enc C.prog fn conds apart (w.forCall tape i).memory i.args ∧ X (w.forCall tape i).memory i.args) ∧ sizedMet enc C.prog fn (OpenSpec.ofChange s) apart (w.forCall tape i).memory i.args) ∧ a.holds C.prog (lone (Frame.enter C.prog f i.args .normal) [] (w.forCall tape i)))
    (contract : ∀ (W : World) (base : Nat) (args : Array Value) (ds gs : List (DataW H)) (before : List MemPlace),
      (∀ (j : Nat) t v, fn.params[j]? = some t → args[j]? = some v → Value.okWide C.prog W .any base t v) →
      DataW.Whole enc C.prog fn.params.toList s.vars apart W args.toList ds gs before →
      conds.all (PathCond.test C.prog ⟨fn.params.toList, ds, s.plain.varTypes C.prog, gs⟩) = true →
      (DataW.weightsEach C.prog (fn.params.toList ++ s.plain.varTypes C.prog) (ds ++ gs)).all (· ≤ reachBytes) = true → X W args →
      W.ShapedOpen C.prog →
      a.holds C.prog (lone (Frame.enter C.prog f args .normal) [] W) →
      Calls C.prog f args W fun e W' => ∃ v, e = .returned v ∧ s.post enc C.prog fn apart fresh handsOn again W args v W') :
    ReturnsInHanded a C os f .any (fun w args => (s.pre enc C.prog fn conds apart w args ∧ X w args) ∧ sizedMet enc C.prog fn (OpenSpec.ofChange s) apart w args) (s.post enc C.prog fn apart fresh handsOn again) := by
  refine returnsInHanded_of_calls own started noInit witness ?_
  intro w tape i _ hsh _ hok hpre hholds
  obtain ⟨_, _, _, fn', hfn', _, _, _, _, hval⟩ := hok
  have e : fn' = fn := Option.some.inj (hfn'.symm.trans hfn)
  subst e
  obtain ⟨⟨⟨ds, gs, before, hw, hc⟩, hx⟩, hz⟩ := hpre
  have hw' := DataW.Whole.of_heap (w' := w.forCall tape i) (by rfl) hw
  refine (contract (w.forCall tape i) w.heap.size i.args ds gs before hval hw' hc (hz.weights hw) (hX _ _ _ (by rfl) hx) hsh hholds).mono fun e W' ⟨v, he, hp⟩ => ?_
  subst he
  exact ChangeSpec.post_blind hp
end Go.Proofs.YtadaegehdcngdaaDoor.LaidKit
end

section
namespace Go.Proofs.YtadaegehdcngdaaDoor.RowFnExactTableLines
open Go.ChangeShapes Go.WideShapes Go.ChangeAt Go.RowKit Go.Proofs.YtadaegehdcngdaaDoorW.PrintWords Go.Proofs.YtadaegehdcngdaaDoor.XU Go.Proofs.YtadaegehdcngdaaDoor.Open
open Go.ChangeMaps (open_string shut_string)
set_option linter.unusedVariables false
theorem own : ownKnob Tryd.prog.godebug = none := by kernel_rfl
theorem laidOut : laidOutB Tryd.prog = true := by kernel_rfl
set_option maxRecDepth 100000 in
theorem lifted (os : Os) (started : os.Started) (H : Type) (enc : TypeId × Value → H) :
    ReturnsInHanded {} Tryd.checked os 3 .any (fun w args => (Rows.fnExactTableLinesSpec.pre enc Tryd.prog Tryd.f3 Rows.fnExactTableLinesRow.domain false w args ∧ laidMetH Tryd.prog Rows.fnExactTableLinesRow.laid w) ∧ sizedMet enc Tryd.prog Tryd.f3 (OpenSpec.ofChange Rows.fnExactTableLinesSpec) false w args) (Rows.fnExactTableLinesSpec.post enc Tryd.prog Tryd.f3 false true false false) := by
  refine LaidKit.returns_laid_shaped (C := Tryd.checked) (X := fun w _ => laidMetH Tryd.prog Rows.fnExactTableLinesRow.laid w) (fun _ _ _ hh h => h.of_heap hh) own started (by kernel_rfl) Tryd.func3
    (ChangeSpec.witness_shaped (enc := enc) (C := Tryd.checked) (os := os) (X := fun w _ => laidMetH Tryd.prog Rows.fnExactTableLinesRow.laid w) false (World.laidAll Tryd.prog os Rows.fnExactTableLinesRow.laid) #[(.slice none 0 0)] 8 (World.laidAll_os _ _ _)
      (World.shaped_of_ZipB (by kernel_rfl) (by kernel_rfl)) (by kernel_rfl) (by kernel_rfl) (by kernel_rfl)
      (by rw [MakeChecks.laidMetH_plain _ _ _ (by kernel_rfl)]; exact laidMet_laidAll _ (by kernel_rfl) (by kernel_rfl))) ?_
  intro W base args ds gs before hval0 hW hcnd hsz0 _ hsh _
  have hsz : (DataW.weightsEach Tryd.prog (Tryd.f3.params.toList ++ Rows.fnExactTableLinesSpec.plain.varTypes Tryd.prog) (ds ++ gs)).all (· ≤ reachBytes) = true := hsz0
  have hval : ∀ (j : Nat) t v, Tryd.f3.params[j]? = some t → args[j]? = some v → Value.okWide Tryd.prog W .any base t v := hval0
  have hW' := hW
  obtain ⟨p, q, hA0, hV, rfl, hfz, hnd⟩ := hW
  have hA : DataW.TrodAll enc Tryd.prog W 0 (fun _ => true) true Tryd.f3.params.toList args.toList ds p := hA0
  rw [Tryd.params3] at hA hval hsz
  obtain ⟨v0, vs0, d0, ds0, p0, q0, hargs, rfl, rfl, h0, r0⟩ := trodAll_cons hA
  obtain ⟨rfl, rfl, rfl⟩ := trodAll_nil r0
  obtain rfl : args = #[v0] := by cases args; simp_all
  obtain ⟨rfl, rfl⟩ := trodVars_none hV
  have kk0 := h0
  have lt0 : ∀ x ∈ p0, x.block < W.heap.size := by obtain ⟨m, hm⟩ := kk0; exact DataW.trod_lt m _ _ _ hm
  obtain ⟨A0, c0, a0, rfl, hc0, hr0, hq0⟩ := open_sl Tryd.underlying22 (by kernel_rfl) (Opens.slice Tryd.underlying24 (by kernel_rfl) (Opens.string Tryd.underlying9 (by kernel_rfl))) (hval 0 22 v0 rfl rfl) h0
  have hst : ShT Tryd.prog W := ⟨hsh⟩
  obtain ⟨k, hp⟩ := PureFnExactTableLines.pure a0 hq0
  clear hA0 hval0 hsz0 hsz
  refine (laws_FnExactTableLines.calls k A0 c0 a0 true W hr0 hc0 hst hp).mono fun e W' ⟨he, bel0⟩ => ?_
  have bel : Below W.heap.size W W' := bel0
  subst he
  exact ⟨_, rfl, _, _, _, [], _, [], hW', trodAll_mk1 (shut_bool Tryd.underlying4 _), (trodAll_cons_mk (Below.trod laidOut (by kernel_rfl) (of_decide_eq_true (by kernel_rfl)) kk0 bel lt0) trodAll_mk0), rfl, bel.frame _, fun h => by cases h⟩
theorem over : Rows.fnExactTableLinesRow.holds Tryd.pinned (OpenSpec.ofChange Rows.fnExactTableLinesSpec) :=
  OpenClaim.holds_of_wide 3 Tryd.f3 rfl rfl rfl rfl rfl rfl rfl ⟨rfl, rfl, rfl, rfl, rfl⟩ rfl rfl rfl rfl rfl (by kernel_rfl) Tryd.func3 (by kernel_rfl)
    (of_decide_eq_true (by kernel_rfl)) (by unfold Func.isWrapper; first | (rw [if_pos (by decide +kernel)]; kernel_rfl) | (rw [if_neg (by decide +kernel)]; exact ⟨rfl, rfl⟩))
    (fun os started H enc _ => lifted os started H enc)
end Go.Proofs.YtadaegehdcngdaaDoor.RowFnExactTableLines
namespace Go.Proofs.YtadaegehdcngdaaDoor
theorem fnExactTableLines_holds : Rows.FnExactTableLinesSaid := RowFnExactTableLines.over
theorem fnExactTableLines_card_holds : Rows.FnExactTableLinesCardSaid :=
  Claim7.holds_tied_plain_at .later [] [.data, .pinned] true (true, "f1209fb9f8733c42d4d33a6f5edfc7374aae7c652ec0ec2f7b3039b26fa78294") false fnExactTableLines_holds (fun _ h => by cases h) (by kernel_rfl) (fun _ h => by cases h) fnExactTableLines_row_tie rfl ⟨rfl, rfl⟩ (by kernel_rfl) rfl
    (fun f fn hf hfn => by
      obtain rfl : f = 3 := Option.some.inj ((show Tryd.prog.funcNamed "loop.example/g01011/laws.FnExactTableLines" = some 3 by kernel_rfl).symm.trans hf) |>.symm
      obtain rfl : fn = Tryd.f3 := (Option.some.inj (Tryd.func3.symm.trans hfn)).symm
      exact ⟨by kernel_rfl, fun j t ht => by
        rw [Tryd.params3] at ht
        have hm : t ∈ [22] := by simpa using Array.mem_of_getElem? ht
        have hall : ([22].all fun u => !Tryd.prog.wantsStandIn u) = true := by kernel_rfl
        exact (show Tryd.prog.wantsStandIn t = false by simpa using List.all_eq_true.1 hall t hm)⟩)
    (by kernel_rfl)
end Go.Proofs.YtadaegehdcngdaaDoor
end
