/- The law FnExactReportText: for every list of lines the program's ReportText and the reference's agree, and the list stays. No condition. -/
import Derived.Test.YtdphbanfheejoaaAFnExactReportText
import Derived.Test.YtdphbanfheejoaaLinesB
import Derived.Test.YtdphbanfheejoaaPBasics
import Derived.Test.YtdphbanfheejoaaSBszStringS
import Derived.Test.YtdphbanfheejoaaSBtoStringS
import Derived.Test.YtdphbanfheejoaaSBeqStringS
namespace Go.Proofs.Ytdphbanfheejoaa.PureFnExactReportText
open Go.RowKit Go.Proofs.YtdphbanfheejoaaW.PrintWords Go.Proofs.Ytdphbanfheejoaa.XB Go.Proofs.Ytdphbanfheejoaa.EvK Go.Proofs.Ytdphbanfheejoaa.SB Go.Proofs.Ytdphbanfheejoaa.LinesB Go.Proofs.Ytdphbanfheejoaa.PBasics
set_option linter.unusedVariables false
set_option linter.unusedSimpArgs false

theorem body_len (l : List ByteArray) (h : ∀ x ∈ l, x.size ≤ 1048576) : (impl_ReportText.body l).length ≤ l.length * 1048577 := by
  unfold impl_ReportText.body
  induction l with
  | nil => simp
  | cons x l ih =>
    rw [List.flatMap_cons, List.length_append, List.length_cons]
    have h1 := ih (fun y hy => h y (List.mem_cons_of_mem _ hy))
    have h2 := h x List.mem_cons_self
    rw [size_len'] at h2
    simp only [List.length_append, List.length_singleton]
    omega

theorem text_ev (l : List ByteArray) (hl : l.length ≤ 1048576) (h : ∀ x ∈ l, x.size ≤ 1048576) : Ev (fun k => spec_l30Text.f k l) ⟨(impl_ReportText.body l).toArray⟩ := by
  apply EvP.eq
  unfold spec_l30Text.f
  have hb := body_len l h
  refine for_evp (L := fun k (s : ByteArray) i => spec_l30Text.l0 k l s i) l.length (fun i s => s = ⟨(impl_ReportText.body (l.take i)).toArray⟩) ?_ ?_ (⟨#[]⟩ : ByteArray) (by simp [impl_ReportText.body])
  · rintro i s hi rfl K
    have e : rdOf ByteArray.empty l (i : Int) = l[i] := getD_at l ByteArray.empty i hi
    refine EvP.step (fun k => spec_l30Text.l0.eq_2 _ _ _ k) ?_
    have hle := impl_ReportText.le l i
    have h1 := h _ (List.getElem_mem hi)
    have hz : (⟨(impl_ReportText.body (l.take i)).toArray⟩ : ByteArray).size = (impl_ReportText.body (l.take i)).length := by rw [size_len']
    have h10 : (⟨#[10]⟩ : ByteArray).size = 1 := rfl
    have hm : l.length * 1048577 ≤ 1048576 * 1048577 := Nat.mul_le_mul_right _ hl
    simp only [if_pos (show (i : Int) < (l.length : Int) by omega), if_pos (show (0 : Int) ≤ (i : Int) by omega), e, ByteArray.size_append, h10, hz, if_pos (show l[i].size + 1 ≤ 9223372036854775807 by omega), if_pos (show (impl_ReportText.body (l.take i)).length + (l[i].size + 1) ≤ 9223372036854775807 by omega), w64 (show -9223372036854775808 ≤ (i : Int) + 1 by omega) (by omega)]
    refine K _ ?_
    rw [impl_ReportText.snoc l i hi]
    apply ByteArray.ext
    simp [ByteArray.data_append]
  · rintro s rfl
    refine EvP.step (fun k => spec_l30Text.l0.eq_2 _ _ _ k) ?_
    simp only [if_neg (show ¬ (l.length : Int) < (l.length : Int) by omega)]
    exact EvP.now (by rw [List.take_length])

def text (l : List ByteArray) : ByteArray := if repOk l = true then ⟨(impl_ReportText.body l).toArray⟩ else ⟨#[]⟩

theorem spec_ev (l : List ByteArray) (hl : l.length ≤ 1048576) (h : ∀ x ∈ l, x.size ≤ 1048576) : Ev (fun k => spec_ReportText.f k l) (text l) := by
  unfold spec_ReportText.f text
  refine Ev.bind (spec_rep_ev l hl h) ?_
  cases repOk l with
  | false => exact Ev.now _
  | true => exact Ev.bind (text_ev l hl h) (Ev.now _)

theorem impl_ev (l : List ByteArray) (hl : l.length ≤ 1048576) (h : ∀ x ∈ l, x.size ≤ 1048576) : Ev (fun k => impl_ReportText.f k l) (text l) := by
  unfold impl_ReportText.f text
  refine Ev.bind (impl_rep_ev l hl h) ?_
  have hb := body_len l h
  have hm : l.length * 1048577 ≤ 1048576 * 1048577 := Nat.mul_le_mul_right _ hl
  cases repOk l with
  | false => exact Ev.now _
  | true =>
    simp only [if_true, if_pos (show (impl_ReportText.body l).length ≤ 140737488355328 by omega)]
    exact Ev.now _

theorem pure : laws_FnExactReportText.Pure := by
  intro l hq
  apply EvP.rounds
  unfold laws_FnExactReportText.f
  refine EvP.bindP (szStringS_ev l 1048576 (by omega) (by omega) hq) (fun t ⟨_, hs⟩ => ?_)
  by_cases hn : t < 0
  · simp only [if_pos hn]
    exact EvP.now rfl
  simp only [if_neg hn]
  obtain ⟨hs1, hs2⟩ := hs (by omega)
  have e : l.map toStringS_el = l := List.map_id l
  have hto := toStringS_ev l hs1
  rw [e] at hto
  refine EvP.bind hto (EvP.bind (spec_ev l hs1 hs2) (EvP.bind hto (EvP.bind (impl_ev l hs1 hs2) ?_)))
  simp only [if_true]
  refine EvP.bind hto (EvP.bind (eqStringS_ev l hs1) ?_)
  simp only [if_true]
  exact EvP.now rfl
end Go.Proofs.Ytdphbanfheejoaa.PureFnExactReportText
