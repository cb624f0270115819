/- A line of a report, and a report: what the program's and the reference's tests of them come to. -/
import Derived.Test.YtdphbanfheejoaaEv
import Derived.Test.YtdphbanfheejoaaXB21
import Derived.Test.YtdphbanfheejoaaXB25
namespace Go.Proofs.Ytdphbanfheejoaa.LinesB
open Go.RowKit Go.Proofs.YtdphbanfheejoaaW.PrintWords Go.Proofs.Ytdphbanfheejoaa.XB Go.Proofs.Ytdphbanfheejoaa.EvK
set_option linter.unusedVariables false
set_option linter.unusedSimpArgs false

def okByte (a b : Int) (c : UInt8) : Bool := decide (a ≤ (c.toNat : Int)) && decide ((c.toNat : Int) ≤ b)
def within (s : ByteArray) (a b : Int) : Bool := s.data.toList.all (okByte a b)
def lineOk (s : ByteArray) : Bool := within s 32 126 && decide ((s.size : Int) ≤ 100)
def repOk (l : List ByteArray) : Bool := l.all lineOk && decide ((l.length : Int) ≤ 200)

theorem bytesWithin_ev (s : ByteArray) (a b : Int) (h : s.size ≤ 1048576) : Ev (fun k => impl_bytesWithin.f k s a b) (within s a b) := by
  unfold impl_bytesWithin.f within
  rw [size_len']  at h
  have := all_ev (L := fun k i => impl_bytesWithin.l0 k s a b (s.size : Int) i) s.data.toList (okByte a b) true ?_ ?_ ?_
  · simpa using this
  · intro i hi hp P K
    simp only [okByte, Bool.and_eq_true, decide_eq_true_eq] at hp
    refine EvP.step (fun k => impl_bytesWithin.l0.eq_2 _ _ _ _ _ k) ?_
    simp only [size_len, if_pos (show (i : Int) < (s.data.toList.length : Int) by omega), if_pos (show (0 : Int) ≤ (i : Int) by omega), byte_at s i hi, if_neg (show ¬ ((s.data.toList[i].toNat : Int) < a) by omega), if_neg (show ¬ ((s.data.toList[i].toNat : Int) > b) by omega), w64 (show -9223372036854775808 ≤ (i : Int) + 1 by omega) (by omega)]
    simpa only [size_len] using K
  · intro i hi hp
    simp only [okByte, Bool.and_eq_false_iff, decide_eq_false_iff_not] at hp
    refine Ev.step (fun k => impl_bytesWithin.l0.eq_2 _ _ _ _ _ k) ?_
    simp only [size_len, if_pos (show (i : Int) < (s.data.toList.length : Int) by omega), if_pos (show (0 : Int) ≤ (i : Int) by omega), byte_at s i hi]
    by_cases h1 : (s.data.toList[i].toNat : Int) < a
    · simp only [if_pos h1]; exact Ev.now _
    · simp only [if_neg h1, if_pos (show (s.data.toList[i].toNat : Int) > b by omega)]; exact Ev.now _
  · refine Ev.step (fun k => impl_bytesWithin.l0.eq_2 _ _ _ _ _ k) ?_
    simp only [size_len, if_neg (show ¬ (s.data.toList.length : Int) < (s.data.toList.length : Int) by omega)]
    exact Ev.now _

theorem impl_line_ev (s : ByteArray) (h : s.size ≤ 1048576) : Ev (fun k => impl_lineValid.f k s) (lineOk s) := by
  unfold impl_lineValid.f lineOk
  by_cases h1 : (s.size : Int) ≤ 100
  · simp only [if_pos h1, h1, decide_true, Bool.and_true]
    exact Ev.bind (bytesWithin_ev s 32 126 h) (Ev.now _)
  · simp only [if_neg h1, h1, decide_false, Bool.and_false]
    exact Ev.now _

theorem spec_line_ev (s : ByteArray) (h : s.size ≤ 1048576) : Ev (fun k => spec_l30Line.f k s) (lineOk s) := by
  unfold spec_l30Line.f lineOk within
  rw [size_len']  at h
  refine all_ev (L := fun k i => spec_l30Line.l0 k s i) s.data.toList (okByte 32 126) (decide ((s.size : Int) ≤ 100)) ?_ ?_ ?_
  · intro i hi hp P K
    simp only [okByte, Bool.and_eq_true, decide_eq_true_eq] at hp
    refine EvP.step (fun k => spec_l30Line.l0.eq_2 _ _ k) ?_
    simp only [size_len, if_pos (show (i : Int) < (s.data.toList.length : Int) by omega), if_pos (show (0 : Int) ≤ (i : Int) by omega), byte_at s i hi, if_neg (show ¬ ((s.data.toList[i].toNat : Int) < 32) by omega), if_neg (show ¬ ((s.data.toList[i].toNat : Int) > 126) by omega), w64 (show -9223372036854775808 ≤ (i : Int) + 1 by omega) (by omega)]
    exact K
  · intro i hi hp
    simp only [okByte, Bool.and_eq_false_iff, decide_eq_false_iff_not] at hp
    refine Ev.step (fun k => spec_l30Line.l0.eq_2 _ _ k) ?_
    simp only [size_len, if_pos (show (i : Int) < (s.data.toList.length : Int) by omega), if_pos (show (0 : Int) ≤ (i : Int) by omega), byte_at s i hi]
    by_cases h1 : (s.data.toList[i].toNat : Int) < 32
    · simp only [if_pos h1]; exact Ev.now _
    · simp only [if_neg h1, if_pos (show (s.data.toList[i].toNat : Int) > 126 by omega)]; exact Ev.now _
  · refine Ev.step (fun k => spec_l30Line.l0.eq_2 _ _ k) ?_
    simp only [size_len, if_neg (show ¬ (s.data.toList.length : Int) < (s.data.toList.length : Int) by omega)]
    exact Ev.now _

theorem spec_rep_ev (l : List ByteArray) (hl : l.length ≤ 1048576) (hs : ∀ x ∈ l, x.size ≤ 1048576) : Ev (fun k => spec_l30Ok.f k l) (repOk l) := by
  unfold spec_l30Ok.f repOk
  refine all_ev (L := fun k i => spec_l30Ok.l0 k l i) l lineOk _ ?_ ?_ ?_
  · intro i hi hp P K
    have e : rdOf ByteArray.empty l (i : Int) = l[i] := getD_at l ByteArray.empty i hi
    refine EvP.step (fun k => spec_l30Ok.l0.eq_2 _ _ k) ?_
    simp only [if_pos (show (i : Int) < (l.length : Int) by omega), if_pos (show (0 : Int) ≤ (i : Int) by omega), e, w64 (show -9223372036854775808 ≤ (i : Int) + 1 by omega) (by omega)]
    refine EvP.bind (spec_line_ev l[i] (hs _ (List.getElem_mem hi))) ?_
    simp only [hp, if_true]
    exact K
  · intro i hi hp
    have e : rdOf ByteArray.empty l (i : Int) = l[i] := getD_at l ByteArray.empty i hi
    refine Ev.step (fun k => spec_l30Ok.l0.eq_2 _ _ k) ?_
    simp only [if_pos (show (i : Int) < (l.length : Int) by omega), if_pos (show (0 : Int) ≤ (i : Int) by omega), e]
    refine Ev.bind (spec_line_ev l[i] (hs _ (List.getElem_mem hi))) ?_
    simp only [hp, Bool.false_eq_true, if_false]
    exact Ev.now _
  · refine Ev.step (fun k => spec_l30Ok.l0.eq_2 _ _ k) ?_
    simp only [if_neg (show ¬ (l.length : Int) < (l.length : Int) by omega)]
    exact Ev.now _

theorem impl_rep_ev (l : List ByteArray) (hl : l.length ≤ 1048576) (hs : ∀ x ∈ l, x.size ≤ 1048576) : Ev (fun k => impl_ValidReport.f k l) (repOk l) := by
  unfold impl_ValidReport.f repOk
  by_cases h1 : (l.length : Int) > 200
  · simp only [if_pos h1, show ¬ (l.length : Int) ≤ 200 by omega, decide_false, Bool.and_false]
    exact Ev.now _
  simp only [if_neg h1, show (l.length : Int) ≤ 200 by omega, decide_true]
  refine all_ev (L := fun k i => impl_ValidReport.l0 k l (l.length : Int) i) l lineOk true ?_ ?_ ?_
  · intro i hi hp P K
    have e : rdOf ByteArray.empty l (i : Int) = l[i] := getD_at l ByteArray.empty i hi
    refine EvP.step (fun k => impl_ValidReport.l0.eq_2 _ _ _ k) ?_
    simp only [if_pos (show (i : Int) < (l.length : Int) by omega), if_pos (show (0 : Int) ≤ (i : Int) by omega), e, w64 (show -9223372036854775808 ≤ (i : Int) + 1 by omega) (by omega)]
    refine EvP.bind (impl_line_ev l[i] (hs _ (List.getElem_mem hi))) ?_
    simp only [hp, if_true]
    exact K
  · intro i hi hp
    have e : rdOf ByteArray.empty l (i : Int) = l[i] := getD_at l ByteArray.empty i hi
    refine Ev.step (fun k => impl_ValidReport.l0.eq_2 _ _ _ k) ?_
    simp only [if_pos (show (i : Int) < (l.length : Int) by omega), if_pos (show (0 : Int) ≤ (i : Int) by omega), e]
    refine Ev.bind (impl_line_ev l[i] (hs _ (List.getElem_mem hi))) ?_
    simp only [hp, Bool.false_eq_true, if_false]
    exact Ev.now _
  · refine Ev.step (fun k => impl_ValidReport.l0.eq_2 _ _ _ k) ?_
    simp only [if_neg (show ¬ (l.length : Int) < (l.length : Int) by omega)]
    exact Ev.now _
end Go.Proofs.Ytdphbanfheejoaa.LinesB
