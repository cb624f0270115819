/- The law FnExactSameDesk: part 11 of its texts, joined (wip/pack.py). -/
import Derived.Test.YtmfhncjkfhdlcaaKFnExactSameDeska
import Derived.Test.YtmfhncjkfhdlcaaKFnExactSameDeskb
import Derived.Test.YtmfhncjkfhdlcaaKFnExactSameDeskc
import Derived.Test.YtmfhncjkfhdlcaaKFnExactSameDeskd
import Derived.Test.YtmfhncjkfhdlcaaKFnExactSameDeske
import Derived.Test.YtmfhncjkfhdlcaaKFnExactSameDeskf
import Derived.Test.YtmfhncjkfhdlcaaKFnExactSameDeskg
import Derived.Test.YtmfhncjkfhdlcaaKFnExactSameDeskh
import Derived.Test.YtmfhncjkfhdlcaaKFnExactSameDeski
import Derived.Test.YtmfhncjkfhdlcaaKFnExactSameDeskj
import Derived.Test.YtmfhncjkfhdlcaaKFnExactSameDeskk
import Derived.Lib.Strings
import Derived.Test.YtmfhncjkfhdlcaaRows
import Derived.WalkKit
import Derived.ProofKit
import Derived.OpenShut
import Derived.ShutString
import Derived.ChangeOld
import Derived.Below
import Derived.SizedLaws

section
namespace Go.Proofs.Ytmfhncjkfhdlcaa.PDesk
open Go.RowKit Go.Proofs.YtmfhncjkfhdlcaaW.PrintWords Go.Proofs.YtmfhncjkfhdlcaaW.PrintMore Go.Proofs.Ytmfhncjkfhdlcaa.XM Go.Proofs.Ytmfhncjkfhdlcaa.EvK Go.Proofs.Ytmfhncjkfhdlcaa.SM
set_option linter.unusedVariables false
set_option linter.unusedSimpArgs false
noncomputable def sm {α : Type} (a b : α) : Bool := @decide (a = b) (Classical.propDecidable _)
theorem sm_iff {α : Type} {a b : α} : sm a b = true ↔ a = b := by unfold sm; exact @decide_eq_true_iff _ (Classical.propDecidable _)
theorem sm_self {α : Type} (a : α) : sm a a = true := sm_iff.2 rfl
theorem sm_ne {α : Type} {a b : α} (h : ¬ a = b) : sm a b = false := by
  cases e : sm a b with
  | false => rfl
  | true => exact absurd (sm_iff.1 e) h
theorem sm_not {α : Type} {a b : α} (h : sm a b = false) : ¬ a = b := fun e => by rw [sm_iff.2 e] at h; exact absurd h (by simp)
theorem sm_of {α : Type} {a b : α} {c : Bool} (h : c = true ↔ a = b) : c = sm a b := by
  rw [Bool.eq_iff_iff, sm_iff]; exact h
theorem toList_eq (s : ByteArray) : s.toList = s.data.toList := by
  have := Lib.toList_data s
  first | exact this | exact this.symm
theorem tl_iff (a b : ByteArray) : a.toList = b.toList ↔ a = b := by
  rw [toList_eq, toList_eq]
  constructor
  · intro h
    cases a; cases b
    simp only at h
    rw [Array.toList_inj.1 h]
  · rintro rfl; rfl
theorem all_sm {α : Type} (l m : List α) (e : l.length = m.length) (p : Nat → Bool) (hp : ∀ i (h : i < l.length) (h' : i < m.length), p i = true ↔ l[i] = m[i]) : (List.range l.length).all p = sm l m := by
  refine sm_of ?_
  rw [List.all_eq_true]
  constructor
  · intro h
    refine List.ext_getElem e (fun i h1 h2 => (hp i h1 h2).1 (h i (List.mem_range.2 h1)))
  · rintro rfl i hi
    exact (hp i (List.mem_range.1 hi) (List.mem_range.1 hi)).2 rfl
theorem ite_b (b : Bool) : (if b = true then true else false) = b := by cases b <;> rfl
theorem len_ne {α : Type} {l m : List α} (h : ¬ l.length = m.length) : sm l m = false := sm_ne (fun e => h (by rw [e]))
theorem ne_Valve (x y : S66) : ((!(x.f0.toList == y.f0.toList)) || ((!(x.f1.toList == y.f1.toList)) || (!(x.f2 == y.f2)))) = !sm x y := by
  have : sm x y = ((x.f0.toList == y.f0.toList) && ((x.f1.toList == y.f1.toList) && (x.f2 == y.f2))) := by
    refine (sm_of ?_).symm
    cases x; cases y
    simp only [Bool.and_eq_true, beq_iff_eq, tl_iff, S66.mk.injEq]
  rw [this]
  simp only [Bool.not_and]
theorem rd_Valve (l : List S66) (i : Nat) (h : i < l.length) : rd_T66 l (i : Int) = l[i] := getD_at l z66 i h
theorem same_Valve (l m : List S66) (hl : l.length ≤ 1048576) : Ev (fun k => slices_Equal_ValveS.f k l m) (sm l m) := by
  unfold slices_Equal_ValveS.f
  by_cases e : l.length = m.length
  · simp only [if_pos (show (l.length : Int) = (m.length : Int) by omega)]
    have := all_n (L := fun k i => slices_Equal_ValveS.l0 k l m (l.length : Int) i) l.length (fun i => sm (rd_T66 l (i : Int)) (rd_T66 m (i : Int))) true false ?_ ?_ ?_
    · rw [all_sm l m e _ (fun i h h' => by rw [sm_iff, rd_Valve l i h, rd_Valve m i h'])] at this
      rwa [ite_b] at this
    · intro i hi hp P K
      refine EvP.step (fun k => slices_Equal_ValveS.l0.eq_2 _ _ _ _ k) ?_
      simp only [if_pos (show (i : Int) < (l.length : Int) by omega), if_pos (show (i : Int) < (m.length : Int) by omega), if_pos (show (0 : Int) ≤ (i : Int) by omega), ne_Valve, hp, Bool.not_true, Bool.false_eq_true, if_false, w64 (show -9223372036854775808 ≤ (i : Int) + 1 by omega) (by omega)]
      exact K
    · intro i hi hp
      refine Ev.step (fun k => slices_Equal_ValveS.l0.eq_2 _ _ _ _ k) ?_
      simp only [if_pos (show (i : Int) < (l.length : Int) by omega), if_pos (show (i : Int) < (m.length : Int) by omega), if_pos (show (0 : Int) ≤ (i : Int) by omega), ne_Valve, hp, Bool.not_false, if_true]
      exact Ev.now _
    · refine Ev.step (fun k => slices_Equal_ValveS.l0.eq_2 _ _ _ _ k) ?_
      simp only [if_neg (show ¬ (l.length : Int) < (l.length : Int) by omega)]
      exact Ev.now _
  · simp only [if_neg (show ¬ (l.length : Int) = (m.length : Int) by omega), len_ne e]
    exact Ev.now _
theorem ne_Substation (x y : S73) : ((!(x.f0.toList == y.f0.toList)) || ((!(x.f1 == y.f1)) || ((!(x.f2 == y.f2)) || ((!(x.f3 == y.f3)) || (!(x.f4 == y.f4)))))) = !sm x y := by
  have : sm x y = ((x.f0.toList == y.f0.toList) && ((x.f1 == y.f1) && ((x.f2 == y.f2) && ((x.f3 == y.f3) && (x.f4 == y.f4))))) := by
    refine (sm_of ?_).symm
    cases x; cases y
    simp only [Bool.and_eq_true, beq_iff_eq, tl_iff, S73.mk.injEq]
  rw [this]
  simp only [Bool.not_and]
theorem rd_Substation (l : List S73) (i : Nat) (h : i < l.length) : rd_T73 l (i : Int) = l[i] := getD_at l z73 i h
theorem same_Substation (l m : List S73) (hl : l.length ≤ 1048576) : Ev (fun k => slices_Equal_SubstationS.f k l m) (sm l m) := by
  unfold slices_Equal_SubstationS.f
  by_cases e : l.length = m.length
  · simp only [if_pos (show (l.length : Int) = (m.length : Int) by omega)]
    have := all_n (L := fun k i => slices_Equal_SubstationS.l0 k l m (l.length : Int) i) l.length (fun i => sm (rd_T73 l (i : Int)) (rd_T73 m (i : Int))) true false ?_ ?_ ?_
    · rw [all_sm l m e _ (fun i h h' => by rw [sm_iff, rd_Substation l i h, rd_Substation m i h'])] at this
      rwa [ite_b] at this
    · intro i hi hp P K
      refine EvP.step (fun k => slices_Equal_SubstationS.l0.eq_2 _ _ _ _ k) ?_
      simp only [if_pos (show (i : Int) < (l.length : Int) by omega), if_pos (show (i : Int) < (m.length : Int) by omega), if_pos (show (0 : Int) ≤ (i : Int) by omega), ne_Substation, hp, Bool.not_true, Bool.false_eq_true, if_false, w64 (show -9223372036854775808 ≤ (i : Int) + 1 by omega) (by omega)]
      exact K
    · intro i hi hp
      refine Ev.step (fun k => slices_Equal_SubstationS.l0.eq_2 _ _ _ _ k) ?_
      simp only [if_pos (show (i : Int) < (l.length : Int) by omega), if_pos (show (i : Int) < (m.length : Int) by omega), if_pos (show (0 : Int) ≤ (i : Int) by omega), ne_Substation, hp, Bool.not_false, if_true]
      exact Ev.now _
    · refine Ev.step (fun k => slices_Equal_SubstationS.l0.eq_2 _ _ _ _ k) ?_
      simp only [if_neg (show ¬ (l.length : Int) < (l.length : Int) by omega)]
      exact Ev.now _
  · simp only [if_neg (show ¬ (l.length : Int) = (m.length : Int) by omega), len_ne e]
    exact Ev.now _
theorem ne_Fuel (x y : S75) : ((!(x.f0.toList == y.f0.toList)) || ((!(x.f1 == y.f1)) || ((!(x.f2 == y.f2)) || (!(x.f3 == y.f3))))) = !sm x y := by
  have : sm x y = ((x.f0.toList == y.f0.toList) && ((x.f1 == y.f1) && ((x.f2 == y.f2) && (x.f3 == y.f3)))) := by
    refine (sm_of ?_).symm
    cases x; cases y
    simp only [Bool.and_eq_true, beq_iff_eq, tl_iff, S75.mk.injEq]
  rw [this]
  simp only [Bool.not_and]
theorem rd_Fuel (l : List S75) (i : Nat) (h : i < l.length) : rd_T75 l (i : Int) = l[i] := getD_at l z75 i h
theorem same_Fuel (l m : List S75) (hl : l.length ≤ 1048576) : Ev (fun k => slices_Equal_FuelS.f k l m) (sm l m) := by
  unfold slices_Equal_FuelS.f
  by_cases e : l.length = m.length
  · simp only [if_pos (show (l.length : Int) = (m.length : Int) by omega)]
    have := all_n (L := fun k i => slices_Equal_FuelS.l0 k l m (l.length : Int) i) l.length (fun i => sm (rd_T75 l (i : Int)) (rd_T75 m (i : Int))) true false ?_ ?_ ?_
    · rw [all_sm l m e _ (fun i h h' => by rw [sm_iff, rd_Fuel l i h, rd_Fuel m i h'])] at this
      rwa [ite_b] at this
    · intro i hi hp P K
      refine EvP.step (fun k => slices_Equal_FuelS.l0.eq_2 _ _ _ _ k) ?_
      simp only [if_pos (show (i : Int) < (l.length : Int) by omega), if_pos (show (i : Int) < (m.length : Int) by omega), if_pos (show (0 : Int) ≤ (i : Int) by omega), ne_Fuel, hp, Bool.not_true, Bool.false_eq_true, if_false, w64 (show -9223372036854775808 ≤ (i : Int) + 1 by omega) (by omega)]
      exact K
    · intro i hi hp
      refine Ev.step (fun k => slices_Equal_FuelS.l0.eq_2 _ _ _ _ k) ?_
      simp only [if_pos (show (i : Int) < (l.length : Int) by omega), if_pos (show (i : Int) < (m.length : Int) by omega), if_pos (show (0 : Int) ≤ (i : Int) by omega), ne_Fuel, hp, Bool.not_false, if_true]
      exact Ev.now _
    · refine Ev.step (fun k => slices_Equal_FuelS.l0.eq_2 _ _ _ _ k) ?_
      simp only [if_neg (show ¬ (l.length : Int) < (l.length : Int) by omega)]
      exact Ev.now _
  · simp only [if_neg (show ¬ (l.length : Int) = (m.length : Int) by omega), len_ne e]
    exact Ev.now _
theorem ne_Repair (x y : S77) : ((!(x.f0.toList == y.f0.toList)) || ((!(x.f1 == y.f1)) || ((!(x.f2 == y.f2)) || (!(x.f3 == y.f3))))) = !sm x y := by
  have : sm x y = ((x.f0.toList == y.f0.toList) && ((x.f1 == y.f1) && ((x.f2 == y.f2) && (x.f3 == y.f3)))) := by
    refine (sm_of ?_).symm
    cases x; cases y
    simp only [Bool.and_eq_true, beq_iff_eq, tl_iff, S77.mk.injEq]
  rw [this]
  simp only [Bool.not_and]
theorem rd_Repair (l : List S77) (i : Nat) (h : i < l.length) : rd_T77 l (i : Int) = l[i] := getD_at l z77 i h
theorem same_Repair (l m : List S77) (hl : l.length ≤ 1048576) : Ev (fun k => slices_Equal_RepairS.f k l m) (sm l m) := by
  unfold slices_Equal_RepairS.f
  by_cases e : l.length = m.length
  · simp only [if_pos (show (l.length : Int) = (m.length : Int) by omega)]
    have := all_n (L := fun k i => slices_Equal_RepairS.l0 k l m (l.length : Int) i) l.length (fun i => sm (rd_T77 l (i : Int)) (rd_T77 m (i : Int))) true false ?_ ?_ ?_
    · rw [all_sm l m e _ (fun i h h' => by rw [sm_iff, rd_Repair l i h, rd_Repair m i h'])] at this
      rwa [ite_b] at this
    · intro i hi hp P K
      refine EvP.step (fun k => slices_Equal_RepairS.l0.eq_2 _ _ _ _ k) ?_
      simp only [if_pos (show (i : Int) < (l.length : Int) by omega), if_pos (show (i : Int) < (m.length : Int) by omega), if_pos (show (0 : Int) ≤ (i : Int) by omega), ne_Repair, hp, Bool.not_true, Bool.false_eq_true, if_false, w64 (show -9223372036854775808 ≤ (i : Int) + 1 by omega) (by omega)]
      exact K
    · intro i hi hp
      refine Ev.step (fun k => slices_Equal_RepairS.l0.eq_2 _ _ _ _ k) ?_
      simp only [if_pos (show (i : Int) < (l.length : Int) by omega), if_pos (show (i : Int) < (m.length : Int) by omega), if_pos (show (0 : Int) ≤ (i : Int) by omega), ne_Repair, hp, Bool.not_false, if_true]
      exact Ev.now _
    · refine Ev.step (fun k => slices_Equal_RepairS.l0.eq_2 _ _ _ _ k) ?_
      simp only [if_neg (show ¬ (l.length : Int) < (l.length : Int) by omega)]
      exact Ev.now _
  · simp only [if_neg (show ¬ (l.length : Int) = (m.length : Int) by omega), len_ne e]
    exact Ev.now _
theorem ne_Tenant (x y : S79) : ((!(x.f0.toList == y.f0.toList)) || ((!(x.f1 == y.f1)) || (!(x.f2 == y.f2)))) = !sm x y := by
  have : sm x y = ((x.f0.toList == y.f0.toList) && ((x.f1 == y.f1) && (x.f2 == y.f2))) := by
    refine (sm_of ?_).symm
    cases x; cases y
    simp only [Bool.and_eq_true, beq_iff_eq, tl_iff, S79.mk.injEq]
  rw [this]
  simp only [Bool.not_and]
theorem rd_Tenant (l : List S79) (i : Nat) (h : i < l.length) : rd_T79 l (i : Int) = l[i] := getD_at l z79 i h
theorem same_Tenant (l m : List S79) (hl : l.length ≤ 1048576) : Ev (fun k => slices_Equal_TenantS.f k l m) (sm l m) := by
  unfold slices_Equal_TenantS.f
  by_cases e : l.length = m.length
  · simp only [if_pos (show (l.length : Int) = (m.length : Int) by omega)]
    have := all_n (L := fun k i => slices_Equal_TenantS.l0 k l m (l.length : Int) i) l.length (fun i => sm (rd_T79 l (i : Int)) (rd_T79 m (i : Int))) true false ?_ ?_ ?_
    · rw [all_sm l m e _ (fun i h h' => by rw [sm_iff, rd_Tenant l i h, rd_Tenant m i h'])] at this
      rwa [ite_b] at this
    · intro i hi hp P K
      refine EvP.step (fun k => slices_Equal_TenantS.l0.eq_2 _ _ _ _ k) ?_
      simp only [if_pos (show (i : Int) < (l.length : Int) by omega), if_pos (show (i : Int) < (m.length : Int) by omega), if_pos (show (0 : Int) ≤ (i : Int) by omega), ne_Tenant, hp, Bool.not_true, Bool.false_eq_true, if_false, w64 (show -9223372036854775808 ≤ (i : Int) + 1 by omega) (by omega)]
      exact K
    · intro i hi hp
      refine Ev.step (fun k => slices_Equal_TenantS.l0.eq_2 _ _ _ _ k) ?_
      simp only [if_pos (show (i : Int) < (l.length : Int) by omega), if_pos (show (i : Int) < (m.length : Int) by omega), if_pos (show (0 : Int) ≤ (i : Int) by omega), ne_Tenant, hp, Bool.not_false, if_true]
      exact Ev.now _
    · refine Ev.step (fun k => slices_Equal_TenantS.l0.eq_2 _ _ _ _ k) ?_
      simp only [if_neg (show ¬ (l.length : Int) < (l.length : Int) by omega)]
      exact Ev.now _
  · simp only [if_neg (show ¬ (l.length : Int) = (m.length : Int) by omega), len_ne e]
    exact Ev.now _
theorem ne_Duty (x y : S81) : ((!(x.f0.toList == y.f0.toList)) || ((!(x.f1 == y.f1)) || ((!(x.f2 == y.f2)) || (!(x.f3 == y.f3))))) = !sm x y := by
  have : sm x y = ((x.f0.toList == y.f0.toList) && ((x.f1 == y.f1) && ((x.f2 == y.f2) && (x.f3 == y.f3)))) := by
    refine (sm_of ?_).symm
    cases x; cases y
    simp only [Bool.and_eq_true, beq_iff_eq, tl_iff, S81.mk.injEq]
  rw [this]
  simp only [Bool.not_and]
theorem rd_Duty (l : List S81) (i : Nat) (h : i < l.length) : rd_T81 l (i : Int) = l[i] := getD_at l z81 i h
theorem same_Duty (l m : List S81) (hl : l.length ≤ 1048576) : Ev (fun k => slices_Equal_DutyS.f k l m) (sm l m) := by
  unfold slices_Equal_DutyS.f
  by_cases e : l.length = m.length
  · simp only [if_pos (show (l.length : Int) = (m.length : Int) by omega)]
    have := all_n (L := fun k i => slices_Equal_DutyS.l0 k l m (l.length : Int) i) l.length (fun i => sm (rd_T81 l (i : Int)) (rd_T81 m (i : Int))) true false ?_ ?_ ?_
    · rw [all_sm l m e _ (fun i h h' => by rw [sm_iff, rd_Duty l i h, rd_Duty m i h'])] at this
      rwa [ite_b] at this
    · intro i hi hp P K
      refine EvP.step (fun k => slices_Equal_DutyS.l0.eq_2 _ _ _ _ k) ?_
      simp only [if_pos (show (i : Int) < (l.length : Int) by omega), if_pos (show (i : Int) < (m.length : Int) by omega), if_pos (show (0 : Int) ≤ (i : Int) by omega), ne_Duty, hp, Bool.not_true, Bool.false_eq_true, if_false, w64 (show -9223372036854775808 ≤ (i : Int) + 1 by omega) (by omega)]
      exact K
    · intro i hi hp
      refine Ev.step (fun k => slices_Equal_DutyS.l0.eq_2 _ _ _ _ k) ?_
      simp only [if_pos (show (i : Int) < (l.length : Int) by omega), if_pos (show (i : Int) < (m.length : Int) by omega), if_pos (show (0 : Int) ≤ (i : Int) by omega), ne_Duty, hp, Bool.not_false, if_true]
      exact Ev.now _
    · refine Ev.step (fun k => slices_Equal_DutyS.l0.eq_2 _ _ _ _ k) ?_
      simp only [if_neg (show ¬ (l.length : Int) < (l.length : Int) by omega)]
      exact Ev.now _
  · simp only [if_neg (show ¬ (l.length : Int) = (m.length : Int) by omega), len_ne e]
    exact Ev.now _
theorem ne_Pipe (x y : S118) : ((!(x.f0.toList == y.f0.toList)) || ((!(x.f1 == y.f1)) || ((!(x.f2 == y.f2)) || ((!(x.f3 == y.f3)) || ((!(x.f4 == y.f4)) || (!(x.f5 == y.f5))))))) = !sm x y := by
  have : sm x y = ((x.f0.toList == y.f0.toList) && ((x.f1 == y.f1) && ((x.f2 == y.f2) && ((x.f3 == y.f3) && ((x.f4 == y.f4) && (x.f5 == y.f5)))))) := by
    refine (sm_of ?_).symm
    cases x; cases y
    simp only [Bool.and_eq_true, beq_iff_eq, tl_iff, S118.mk.injEq]
  rw [this]
  simp only [Bool.not_and]
theorem rd_Pipe (l : List S118) (i : Nat) (h : i < l.length) : rd_T118 l (i : Int) = l[i] := getD_at l z118 i h
theorem same_Pipe (l m : List S118) (hl : l.length ≤ 1048576) : Ev (fun k => slices_Equal_PipeS.f k l m) (sm l m) := by
  unfold slices_Equal_PipeS.f
  by_cases e : l.length = m.length
  · simp only [if_pos (show (l.length : Int) = (m.length : Int) by omega)]
    have := all_n (L := fun k i => slices_Equal_PipeS.l0 k l m (l.length : Int) i) l.length (fun i => sm (rd_T118 l (i : Int)) (rd_T118 m (i : Int))) true false ?_ ?_ ?_
    · rw [all_sm l m e _ (fun i h h' => by rw [sm_iff, rd_Pipe l i h, rd_Pipe m i h'])] at this
      rwa [ite_b] at this
    · intro i hi hp P K
      refine EvP.step (fun k => slices_Equal_PipeS.l0.eq_2 _ _ _ _ k) ?_
      simp only [if_pos (show (i : Int) < (l.length : Int) by omega), if_pos (show (i : Int) < (m.length : Int) by omega), if_pos (show (0 : Int) ≤ (i : Int) by omega), ne_Pipe, hp, Bool.not_true, Bool.false_eq_true, if_false, w64 (show -9223372036854775808 ≤ (i : Int) + 1 by omega) (by omega)]
      exact K
    · intro i hi hp
      refine Ev.step (fun k => slices_Equal_PipeS.l0.eq_2 _ _ _ _ k) ?_
      simp only [if_pos (show (i : Int) < (l.length : Int) by omega), if_pos (show (i : Int) < (m.length : Int) by omega), if_pos (show (0 : Int) ≤ (i : Int) by omega), ne_Pipe, hp, Bool.not_false, if_true]
      exact Ev.now _
    · refine Ev.step (fun k => slices_Equal_PipeS.l0.eq_2 _ _ _ _ k) ?_
      simp only [if_neg (show ¬ (l.length : Int) < (l.length : Int) by omega)]
      exact Ev.now _
  · simp only [if_neg (show ¬ (l.length : Int) = (m.length : Int) by omega), len_ne e]
    exact Ev.now _
theorem same_ints (l m : List Int) (hl : l.length ≤ 1048576) : Ev (fun k => slices_Equal_int64S.f k l m) (sm l m) := by
  unfold slices_Equal_int64S.f
  by_cases e : l.length = m.length
  · simp only [if_pos (show (l.length : Int) = (m.length : Int) by omega)]
    have := all_n (L := fun k i => slices_Equal_int64S.l0 k l m (l.length : Int) i) l.length (fun i => sm (rd l (i : Int)) (rd m (i : Int))) true false ?_ ?_ ?_
    · rw [all_sm l m e _ (fun i h h' => by rw [sm_iff, rd_at l i h, rd_at m i h'])] at this
      rwa [ite_b] at this
    · intro i hi hp P K
      refine EvP.step (fun k => slices_Equal_int64S.l0.eq_2 _ _ _ _ k) ?_
      simp only [if_pos (show (i : Int) < (l.length : Int) by omega), if_pos (show (i : Int) < (m.length : Int) by omega), if_pos (show (0 : Int) ≤ (i : Int) by omega), if_pos (sm_iff.1 hp), w64 (show -9223372036854775808 ≤ (i : Int) + 1 by omega) (by omega)]
      exact K
    · intro i hi hp
      refine Ev.step (fun k => slices_Equal_int64S.l0.eq_2 _ _ _ _ k) ?_
      simp only [if_pos (show (i : Int) < (l.length : Int) by omega), if_pos (show (i : Int) < (m.length : Int) by omega), if_pos (show (0 : Int) ≤ (i : Int) by omega), if_neg (sm_not hp)]
      exact Ev.now _
    · refine Ev.step (fun k => slices_Equal_int64S.l0.eq_2 _ _ _ _ k) ?_
      simp only [if_neg (show ¬ (l.length : Int) < (l.length : Int) by omega)]
      exact Ev.now _
  · simp only [if_neg (show ¬ (l.length : Int) = (m.length : Int) by omega), len_ne e]
    exact Ev.now _
theorem spec_ints (l m : List Int) (hl : l.length ≤ 1048576) : Ev (fun k => spec_l00Same.f k l m) (sm l m) := by
  unfold spec_l00Same.f
  by_cases e : l.length = m.length
  · simp only [if_pos (show (l.length : Int) = (m.length : Int) by omega)]
    have := all_n (L := fun k i => spec_l00Same.l0 k l m i) l.length (fun i => sm (rd l (i : Int)) (rd m (i : Int))) true false ?_ ?_ ?_
    · rw [all_sm l m e _ (fun i h h' => by rw [sm_iff, rd_at l i h, rd_at m i h'])] at this
      rwa [ite_b] at this
    · intro i hi hp P K
      refine EvP.step (fun k => spec_l00Same.l0.eq_2 _ _ _ k) ?_
      simp only [if_pos (show (i : Int) < (l.length : Int) by omega), if_pos (show (i : Int) < (m.length : Int) by omega), if_pos (show (0 : Int) ≤ (i : Int) by omega), if_pos (sm_iff.1 hp), w64 (show -9223372036854775808 ≤ (i : Int) + 1 by omega) (by omega)]
      exact K
    · intro i hi hp
      refine Ev.step (fun k => spec_l00Same.l0.eq_2 _ _ _ k) ?_
      simp only [if_pos (show (i : Int) < (l.length : Int) by omega), if_pos (show (i : Int) < (m.length : Int) by omega), if_pos (show (0 : Int) ≤ (i : Int) by omega), if_neg (sm_not hp)]
      exact Ev.now _
    · refine Ev.step (fun k => spec_l00Same.l0.eq_2 _ _ _ k) ?_
      simp only [if_neg (show ¬ (l.length : Int) < (l.length : Int) by omega)]
      exact Ev.now _
  · simp only [if_neg (show ¬ (l.length : Int) = (m.length : Int) by omega), len_ne e]
    exact Ev.now _
theorem rdL (rows : List (List Int)) (q : Nat) (hq : q < rows.length) : rd_L5 rows (q : Int) = rows[q] := by
  unfold rd_L5
  simp [List.getD_eq_getElem?_getD, List.getElem?_eq_getElem hq]
def Sml (rows : List (List Int)) : Prop := rows.length ≤ 1048576 ∧ ∀ r ∈ rows, r.length ≤ 1048576
theorem same_rows (l m : List (List Int)) (hl : Sml l) : Ev (fun k => slices_EqualFunc_int64SS.f k l m) (sm l m) := by
  obtain ⟨hl, hr⟩ := hl
  unfold slices_EqualFunc_int64SS.f
  by_cases e : l.length = m.length
  · simp only [if_pos (show (l.length : Int) = (m.length : Int) by omega)]
    have := all_n (L := fun k i => slices_EqualFunc_int64SS.l0 k m l (l.length : Int) i) l.length (fun i => sm (rd_L5 l (i : Int)) (rd_L5 m (i : Int))) true false ?_ ?_ ?_
    · rw [all_sm l m e _ (fun i h h' => by rw [sm_iff, rdL l i h, rdL m i h'])] at this
      rwa [ite_b] at this
    · intro i hi hp P K
      refine EvP.step (fun k => slices_EqualFunc_int64SS.l0.eq_2 _ _ _ _ k) ?_
      simp only [if_pos (show (i : Int) < (l.length : Int) by omega), if_pos (show (i : Int) < (m.length : Int) by omega), if_pos (show (0 : Int) ≤ (i : Int) by omega)]
      refine EvP.bind (same_ints _ _ (by rw [rdL l i hi]; exact hr _ (List.getElem_mem hi))) ?_
      simp only [hp, if_true, w64 (show -9223372036854775808 ≤ (i : Int) + 1 by omega) (by omega)]
      exact K
    · intro i hi hp
      refine Ev.step (fun k => slices_EqualFunc_int64SS.l0.eq_2 _ _ _ _ k) ?_
      simp only [if_pos (show (i : Int) < (l.length : Int) by omega), if_pos (show (i : Int) < (m.length : Int) by omega), if_pos (show (0 : Int) ≤ (i : Int) by omega)]
      refine Ev.bind (same_ints _ _ (by rw [rdL l i hi]; exact hr _ (List.getElem_mem hi))) ?_
      simp only [hp, Bool.false_eq_true, if_false]
      exact Ev.now _
    · refine Ev.step (fun k => slices_EqualFunc_int64SS.l0.eq_2 _ _ _ _ k) ?_
      simp only [if_neg (show ¬ (l.length : Int) < (l.length : Int) by omega)]
      exact Ev.now _
  · simp only [if_neg (show ¬ (l.length : Int) = (m.length : Int) by omega), len_ne e]
    exact Ev.now _
theorem sm_pump (x y : S71) : sm x y = (sm x.f0 y.f0 && sm x.f1 y.f1) := by
  refine (sm_of ?_).symm
  cases x; cases y
  simp only [Bool.and_eq_true, sm_iff, S71.mk.injEq]
theorem same_pump (x y : S71) (h : Sml x.f1) : Ev (fun k => impl_SamePump.f k x.f0 x.f1 y.f0 y.f1) (sm x y) := by
  unfold impl_SamePump.f
  rw [sm_pump]
  by_cases e : x.f0 = y.f0
  · simp only [if_pos ((tl_iff _ _).2 e), e, sm_self, Bool.true_and]
    exact Ev.bind (same_rows _ _ h) (Ev.now _)
  · simp only [if_neg (fun q => e ((tl_iff _ _).1 q)), sm_ne e, Bool.false_and]
    exact Ev.now _
theorem spec_pump (x y : S71) (h : Sml x.f1) : Ev (fun k => spec_l08Same.f k x.f0 x.f1 y.f0 y.f1) (sm x y) := by
  obtain ⟨hl, hr⟩ := h
  unfold spec_l08Same.f
  rw [sm_pump]
  by_cases e : x.f0 = y.f0
  · simp only [if_pos ((tl_iff _ _).2 e), e, sm_self, Bool.true_and]
    refine Ev.step (fun k => spec_l08Same.j0.eq_2 _ _ _ _ _ k) ?_
    by_cases e1 : x.f1.length = y.f1.length
    · simp only [show ((x.f1.length : Int) != (y.f1.length : Int)) = false by rw [e1]; simp, Bool.false_eq_true, if_false]
      have := all_n (L := fun k i => spec_l08Same.l0 k i y.f0 x.f1 y.f0 y.f1) x.f1.length (fun i => sm (rd_L5 x.f1 (i : Int)) (rd_L5 y.f1 (i : Int))) true false ?_ ?_ ?_
      · rw [all_sm x.f1 y.f1 e1 _ (fun i h h' => by rw [sm_iff, rdL x.f1 i h, rdL y.f1 i h'])] at this
        rwa [ite_b] at this
      · intro i hi hp P K
        refine EvP.step (fun k => spec_l08Same.l0.eq_2 _ _ _ _ _ k) ?_
        simp only [if_pos (show (i : Int) < (x.f1.length : Int) by omega), if_pos (show (i : Int) < (y.f1.length : Int) by omega), if_pos (show (0 : Int) ≤ (i : Int) by omega)]
        refine EvP.bind (spec_ints _ _ (by rw [rdL x.f1 i hi]; exact hr _ (List.getElem_mem hi))) ?_
        simp only [hp, if_true, w64 (show -9223372036854775808 ≤ (i : Int) + 1 by omega) (by omega)]
        exact K
      · intro i hi hp
        refine Ev.step (fun k => spec_l08Same.l0.eq_2 _ _ _ _ _ k) ?_
        simp only [if_pos (show (i : Int) < (x.f1.length : Int) by omega), if_pos (show (i : Int) < (y.f1.length : Int) by omega), if_pos (show (0 : Int) ≤ (i : Int) by omega)]
        refine Ev.bind (spec_ints _ _ (by rw [rdL x.f1 i hi]; exact hr _ (List.getElem_mem hi))) ?_
        simp only [hp, Bool.false_eq_true, if_false]
        exact Ev.now _
      · refine Ev.step (fun k => spec_l08Same.l0.eq_2 _ _ _ _ _ k) ?_
        simp only [if_neg (show ¬ (x.f1.length : Int) < (x.f1.length : Int) by omega)]
        exact Ev.now _
    · simp only [show ((x.f1.length : Int) != (y.f1.length : Int)) = true by simp; omega, if_true, len_ne e1]
      exact Ev.now _
  · simp only [if_neg (fun q => e ((tl_iff _ _).1 q)), sm_ne e, Bool.false_and]
    refine Ev.step (fun k => spec_l08Same.j0.eq_2 _ _ _ _ _ k) ?_
    simp only [if_true]
    exact Ev.now _
theorem rd_Pump (l : List S71) (i : Nat) (h : i < l.length) : rd_T71 l (i : Int) = l[i] := getD_at l z71 i h
def SmlP (l : List S71) : Prop := l.length ≤ 1048576 ∧ ∀ x ∈ l, Sml x.f1
theorem same_pumps (l m : List S71) (hl : SmlP l) : Ev (fun k => slices_EqualFunc_PumpS.f k l m) (sm l m) := by
  obtain ⟨hl, hr⟩ := hl
  unfold slices_EqualFunc_PumpS.f
  by_cases e : l.length = m.length
  · simp only [if_pos (show (l.length : Int) = (m.length : Int) by omega)]
    have := all_n (L := fun k i => slices_EqualFunc_PumpS.l0 k m l (l.length : Int) i) l.length (fun i => sm (rd_T71 l (i : Int)) (rd_T71 m (i : Int))) true false ?_ ?_ ?_
    · rw [all_sm l m e _ (fun i h h' => by rw [sm_iff, rd_Pump l i h, rd_Pump m i h'])] at this
      rwa [ite_b] at this
    · intro i hi hp P K
      refine EvP.step (fun k => slices_EqualFunc_PumpS.l0.eq_2 _ _ _ _ k) ?_
      simp only [if_pos (show (i : Int) < (l.length : Int) by omega), if_pos (show (i : Int) < (m.length : Int) by omega), if_pos (show (0 : Int) ≤ (i : Int) by omega)]
      refine EvP.bind (same_pump _ _ (by rw [rd_Pump l i hi]; exact hr _ (List.getElem_mem hi))) ?_
      simp only [hp, if_true, w64 (show -9223372036854775808 ≤ (i : Int) + 1 by omega) (by omega)]
      exact K
    · intro i hi hp
      refine Ev.step (fun k => slices_EqualFunc_PumpS.l0.eq_2 _ _ _ _ k) ?_
      simp only [if_pos (show (i : Int) < (l.length : Int) by omega), if_pos (show (i : Int) < (m.length : Int) by omega), if_pos (show (0 : Int) ≤ (i : Int) by omega)]
      refine Ev.bind (same_pump _ _ (by rw [rd_Pump l i hi]; exact hr _ (List.getElem_mem hi))) ?_
      simp only [hp, Bool.false_eq_true, if_false]
      exact Ev.now _
    · refine Ev.step (fun k => slices_EqualFunc_PumpS.l0.eq_2 _ _ _ _ k) ?_
      simp only [if_neg (show ¬ (l.length : Int) < (l.length : Int) by omega)]
      exact Ev.now _
  · simp only [if_neg (show ¬ (l.length : Int) = (m.length : Int) by omega), len_ne e]
    exact Ev.now _
theorem same_net (a : List Int) (b : List S118) (c : List Int) (d : List S118) (ha : a.length ≤ 1048576) (hb : b.length ≤ 1048576) : Ev (fun k => impl_SameNetwork.f k a b c d) (sm a c && sm b d) := by
  unfold impl_SameNetwork.f
  refine Ev.bind (same_ints a c ha) ?_
  cases sm a c with
  | false => simp only [Bool.false_eq_true, if_false, Bool.false_and]; exact Ev.now _
  | true => simp only [if_true, Bool.true_and]; exact Ev.bind (same_Pipe b d hb) (Ev.now _)
theorem spec_net (a : List Int) (b : List S118) (c : List Int) (d : List S118) (ha : a.length ≤ 1048576) (hb : b.length ≤ 1048576) : Ev (fun k => spec_SameNetwork.f k a b c d) (sm a c && sm b d) := by
  unfold spec_SameNetwork.f
  refine Ev.bind (spec_ints a c ha) ?_
  cases sm a c with
  | false =>
    simp only [Bool.false_eq_true, if_false, Bool.false_and]
    refine Ev.step (fun k => spec_SameNetwork.j0.eq_2 _ _ _ _ _ k) ?_
    simp only [if_true]
    exact Ev.now _
  | true =>
    simp only [if_true, Bool.true_and]
    refine Ev.step (fun k => spec_SameNetwork.j0.eq_2 _ _ _ _ _ k) ?_
    by_cases e : b.length = d.length
    · simp only [show ((b.length : Int) != (d.length : Int)) = false by rw [e]; simp, Bool.false_eq_true, if_false]
      have := all_n (L := fun k i => spec_SameNetwork.l0 k i a b c d) b.length (fun i => sm (rd_T118 b (i : Int)) (rd_T118 d (i : Int))) true false ?_ ?_ ?_
      · rw [all_sm b d e _ (fun i h h' => by rw [sm_iff, rd_Pipe b i h, rd_Pipe d i h'])] at this
        rwa [ite_b] at this
      · intro i hi hp P K
        refine EvP.step (fun k => spec_SameNetwork.l0.eq_2 _ _ _ _ _ k) ?_
        simp only [if_pos (show (i : Int) < (b.length : Int) by omega), if_pos (show (i : Int) < (d.length : Int) by omega), if_pos (show (0 : Int) ≤ (i : Int) by omega), ne_Pipe, hp, Bool.not_true, Bool.false_eq_true, if_false, w64 (show -9223372036854775808 ≤ (i : Int) + 1 by omega) (by omega)]
        exact K
      · intro i hi hp
        refine Ev.step (fun k => spec_SameNetwork.l0.eq_2 _ _ _ _ _ k) ?_
        simp only [if_pos (show (i : Int) < (b.length : Int) by omega), if_pos (show (i : Int) < (d.length : Int) by omega), if_pos (show (0 : Int) ≤ (i : Int) by omega), ne_Pipe, hp, Bool.not_false, if_true]
        exact Ev.now _
      · refine Ev.step (fun k => spec_SameNetwork.l0.eq_2 _ _ _ _ _ k) ?_
        simp only [if_neg (show ¬ (b.length : Int) < (b.length : Int) by omega)]
        exact Ev.now _
    · simp only [show ((b.length : Int) != (d.length : Int)) = true by simp; omega, if_true, len_ne e]
      exact Ev.now _
theorem allB_range (g : Int → Bool) : ∀ n q, spec_SameDesk.allB g n q = (List.range n).all (fun i => !g ((q + i : Nat) : Int))
  | 0, q => rfl
  | n + 1, q => by
    rw [List.range_succ_eq_map, List.all_cons, List.all_map]
    show (!g (q : Int) && spec_SameDesk.allB g n (q + 1)) = _
    rw [allB_range g n (q + 1)]
    congr 1
    congr 1
    funext i
    simp only [Function.comp]
    rw [show q + 1 + i = q + (i + 1) by omega]
theorem allO_ev (G : Nat → Int → Option Bool) : ∀ (n q : Nat) (p : Nat → Bool), (∀ i, i < n → Ev (fun k => G k ((q + i : Nat) : Int)) (p i)) → Ev (fun k => spec_SameDesk.allO (G k) n q) ((List.range n).all p)
  | 0, q, p, h => Ev.now _
  | n + 1, q, p, h => by
    have h0 := h 0 (by omega)
    rw [List.range_succ_eq_map, List.all_cons, List.all_map]
    show Ev (fun k => (G k (q : Int)).bind fun b => if b = true then spec_SameDesk.allO (G k) n (q + 1) else some false) _
    refine Ev.bind h0 ?_
    cases p 0 with
    | false => simp only [Bool.false_eq_true, if_false, Bool.false_and]; exact Ev.now _
    | true =>
      simp only [if_true, Bool.true_and]
      exact allO_ev G n (q + 1) _ (fun i hi => by have := h (i + 1) (by omega); rwa [show q + (i + 1) = q + 1 + i by omega] at this)
theorem loop_Valve (l m : List S66) (e : l.length = m.length) : spec_SameDesk.allB (spec_SameDesk.d3 l m) l.length 0 = sm l m := by
  rw [allB_range]
  refine all_sm l m e _ (fun i h h' => ?_)
  rw [Nat.zero_add]
  unfold spec_SameDesk.d3
  rw [ne_Valve, Bool.not_not, sm_iff, rd_Valve l i h, rd_Valve m i h']
theorem loop_Substation (l m : List S73) (e : l.length = m.length) : spec_SameDesk.allB (spec_SameDesk.d5 l m) l.length 0 = sm l m := by
  rw [allB_range]
  refine all_sm l m e _ (fun i h h' => ?_)
  rw [Nat.zero_add]
  unfold spec_SameDesk.d5
  rw [ne_Substation, Bool.not_not, sm_iff, rd_Substation l i h, rd_Substation m i h']
theorem loop_Fuel (l m : List S75) (e : l.length = m.length) : spec_SameDesk.allB (spec_SameDesk.d9 l m) l.length 0 = sm l m := by
  rw [allB_range]
  refine all_sm l m e _ (fun i h h' => ?_)
  rw [Nat.zero_add]
  unfold spec_SameDesk.d9
  rw [ne_Fuel, Bool.not_not, sm_iff, rd_Fuel l i h, rd_Fuel m i h']
theorem loop_Repair (l m : List S77) (e : l.length = m.length) : spec_SameDesk.allB (spec_SameDesk.d10 l m) l.length 0 = sm l m := by
  rw [allB_range]
  refine all_sm l m e _ (fun i h h' => ?_)
  rw [Nat.zero_add]
  unfold spec_SameDesk.d10
  rw [ne_Repair, Bool.not_not, sm_iff, rd_Repair l i h, rd_Repair m i h']
theorem loop_Tenant (l m : List S79) (e : l.length = m.length) : spec_SameDesk.allB (spec_SameDesk.d11 l m) l.length 0 = sm l m := by
  rw [allB_range]
  refine all_sm l m e _ (fun i h h' => ?_)
  rw [Nat.zero_add]
  unfold spec_SameDesk.d11
  rw [ne_Tenant, Bool.not_not, sm_iff, rd_Tenant l i h, rd_Tenant m i h']
theorem loop_Duty (l m : List S81) (e : l.length = m.length) : spec_SameDesk.allB (spec_SameDesk.d12 l m) l.length 0 = sm l m := by
  rw [allB_range]
  refine all_sm l m e _ (fun i h h' => ?_)
  rw [Nat.zero_add]
  unfold spec_SameDesk.d12
  rw [ne_Duty, Bool.not_not, sm_iff, rd_Duty l i h, rd_Duty m i h']
theorem loop_Pump (l m : List S71) (e : l.length = m.length) (hl : SmlP l) : Ev (fun k => spec_SameDesk.allO (fun i => spec_l08Same.f k ((rd_T71 l i).f0) ((rd_T71 l i).f1) ((rd_T71 m i).f0) ((rd_T71 m i).f1)) l.length 0) (sm l m) := by
  rw [← all_sm l m e (fun i => sm (rd_T71 l (i : Int)) (rd_T71 m (i : Int))) (fun i h h' => by rw [sm_iff, rd_Pump l i h, rd_Pump m i h'])]
  refine allO_ev (fun k i => spec_l08Same.f k ((rd_T71 l i).f0) ((rd_T71 l i).f1) ((rd_T71 m i).f0) ((rd_T71 m i).f1)) l.length 0 _ (fun i hi => ?_)
  rw [Nat.zero_add]
  exact spec_pump _ _ (by rw [rd_Pump l i hi]; exact hl.2 _ (List.getElem_mem hi))
theorem szRows_ev (l : List (List Int)) (left : Int) (h0 : 0 ≤ left) (h1 : left ≤ 1048576) (hq : l.length ≤ maxLen ∧ ∀ y ∈ l, y.length ≤ maxLen) : EvP (fun k => laws_szInt64SS.f k l left) (fun t => t ≤ left ∧ (0 ≤ t → Sml l)) := by
  obtain ⟨hl, hq⟩ := hq
  unfold maxLen at hl
  unfold laws_szInt64SS.f
  rw [w64 (by omega) (by omega)]
  by_cases hc : left - (l.length : Int) < 0
  · simp only [if_pos hc]
    exact EvP.now ⟨by omega, by omega⟩
  simp only [if_neg hc]
  refine for_evp (L := fun k (s : Int) i => laws_szInt64SS.l0 k l s i) l.length (fun i s => 0 ≤ s ∧ s ≤ left - (l.length : Int) ∧ ∀ x ∈ l.take i, x.length ≤ 1048576) ?_ ?_ _ ⟨by omega, by omega, by simp⟩
  · rintro i s hi ⟨hs0, hs1, hs⟩ K
    refine EvP.step (fun k => laws_szInt64SS.l0.eq_2 _ _ _ k) ?_
    obtain ⟨t, ht, ht1, ht2⟩ := szInt64S_val l[i] s hs0 (by omega) (hq _ (List.getElem_mem hi))
    simp only [if_pos (show (i : Int) < (l.length : Int) by omega), if_pos (show (0 : Int) ≤ (i : Int) by omega), rdL l i hi, ht, Option.bind_some]
    by_cases hn : t < 0
    · simp only [if_pos hn]
      exact EvP.now ⟨by omega, by omega⟩
    · simp only [if_neg hn, w64 (show -9223372036854775808 ≤ (i : Int) + 1 by omega) (by omega)]
      exact K _ ⟨by omega, by omega, take_all hi hs (ht2 (by omega))⟩
  · rintro s ⟨hs0, hs1, hs⟩
    refine EvP.step (fun k => laws_szInt64SS.l0.eq_2 _ _ _ k) ?_
    simp only [if_neg (show ¬ (l.length : Int) < (l.length : Int) by omega)]
    exact EvP.now ⟨by omega, fun _ => ⟨by omega, by simpa using hs⟩⟩
theorem szPump_ev (x : S106) (left : Int) (h0 : 0 ≤ left) (h1 : left ≤ 1048576) (hq : Q106 x) : EvP (fun k => laws_szPump.f k x.f0 x.f1 left) (fun t => t ≤ left ∧ (0 ≤ t → Sml x.f1)) := by
  obtain ⟨ha, hb⟩ := hq
  unfold maxLen at ha
  unfold laws_szPump.f
  rw [w64 (by omega) (by omega)]
  by_cases hc : left - (x.f0.size : Int) < 0
  · simp only [if_pos hc]
    exact EvP.now ⟨by omega, by omega⟩
  simp only [if_neg hc]
  refine EvP.bindP (szRows_ev x.f1 _ (by omega) (by omega) ⟨hb.1, fun y hy => (hb.2 y hy).1⟩) ?_
  rintro t ⟨ht, hs⟩
  by_cases hn : t < 0
  · simp only [if_pos hn]
    exact EvP.now ⟨by omega, by omega⟩
  · simp only [if_neg hn]
    exact EvP.now ⟨by omega, hs⟩
def SmlL (l : List S106) : Prop := l.length ≤ 1048576 ∧ ∀ x ∈ l, Sml x.f1
theorem rd_LPump (l : List S106) (i : Nat) (h : i < l.length) : rd_T106 l (i : Int) = l[i] := getD_at l z106 i h
theorem szPumpS_ev (l : List S106) (left : Int) (h0 : 0 ≤ left) (h1 : left ≤ 1048576) (hq : l.length ≤ maxLen ∧ ∀ y ∈ l, Q106 y) : EvP (fun k => laws_szPumpS.f k l left) (fun t => t ≤ left ∧ (0 ≤ t → SmlL l)) := by
  obtain ⟨hl, hq⟩ := hq
  unfold maxLen at hl
  unfold laws_szPumpS.f
  rw [w64 (by omega) (by omega)]
  by_cases hc : left - (l.length : Int) < 0
  · simp only [if_pos hc]
    exact EvP.now ⟨by omega, by omega⟩
  simp only [if_neg hc]
  refine for_evp (L := fun k (s : Int) i => laws_szPumpS.l0 k l s i) l.length (fun i s => 0 ≤ s ∧ s ≤ left - (l.length : Int) ∧ ∀ x ∈ l.take i, Sml x.f1) ?_ ?_ _ ⟨by omega, by omega, by simp⟩
  · rintro i s hi ⟨hs0, hs1, hs⟩ K
    refine EvP.step (fun k => laws_szPumpS.l0.eq_2 _ _ _ k) ?_
    simp only [if_pos (show (i : Int) < (l.length : Int) by omega), if_pos (show (0 : Int) ≤ (i : Int) by omega), rd_LPump l i hi]
    refine EvP.bindP (szPump_ev l[i] s hs0 (by omega) (hq _ (List.getElem_mem hi))) ?_
    rintro t ⟨ht1, ht2⟩
    by_cases hn : t < 0
    · simp only [if_pos hn]
      exact EvP.now ⟨by omega, by omega⟩
    · simp only [if_neg hn, w64 (show -9223372036854775808 ≤ (i : Int) + 1 by omega) (by omega)]
      exact K _ ⟨by omega, by omega, take_all hi hs (ht2 (by omega))⟩
  · rintro s ⟨hs0, hs1, hs⟩
    refine EvP.step (fun k => laws_szPumpS.l0.eq_2 _ _ _ k) ?_
    simp only [if_neg (show ¬ (l.length : Int) < (l.length : Int) by omega)]
    exact EvP.now ⟨by omega, fun _ => ⟨by omega, by simpa using hs⟩⟩
theorem toRows_ev (l : List (List Int)) (hs : Sml l) : Ev (fun k => laws_toInt64SS.f k l) l := by
  obtain ⟨h1, h2⟩ := hs
  unfold laws_toInt64SS.f
  simp only [if_pos (show (0 : Int) ≤ (l.length : Int) by omega), Int.toNat_natCast, if_pos (show l.length ≤ 11728124029610 by omega)]
  have K : ∀ d i : Nat, i + d = l.length → Ev (fun k => laws_toInt64SS.l0 k l (l.take i ++ List.replicate d []) (i : Int)) l := by
    intro d
    induction d with
    | zero =>
      intro i hi
      refine Ev.step (fun k => laws_toInt64SS.l0.eq_2 _ _ _ k) ?_
      simp only [if_neg (show ¬ (i : Int) < (l.length : Int) by omega)]
      rw [show l.take i ++ List.replicate 0 [] = l by rw [List.take_of_length_le (by omega)]; simp]
      exact Ev.now _
    | succ d ih =>
      intro i hi
      have hil : i < l.length := by omega
      have ht := toInt64S_ev l[i] (h2 l[i] (List.getElem_mem hil))
      rw [show l[i].map toInt64S_el = l[i] from List.map_id _] at ht
      refine Ev.step (fun k => laws_toInt64SS.l0.eq_2 _ _ _ k) ?_
      simp only [if_pos (show (i : Int) < (l.length : Int) by omega), if_pos (show (0 : Int) ≤ (i : Int) by omega), rdL l i hil]
      refine Ev.bind ht ?_
      simp only [if_pos (show (i : Int) < ((l.take i ++ List.replicate (d + 1) []).length : Int) by simp; omega), w64 (show -9223372036854775808 ≤ (i : Int) + 1 by omega) (by omega), Int.toNat_natCast]
      have := ih (i + 1) (by omega)
      rw [show l.take (i + 1) ++ List.replicate d [] = (l.take i ++ List.replicate (d + 1) []).set i l[i] by
        rw [List.take_succ_eq_append_getElem hil, List.replicate_succ, List.set_append_right _ _ (by simp; omega)]
        simp only [List.length_take, show i - min i l.length = 0 by omega, List.set_cons_zero, List.append_assoc, List.singleton_append]] at this
      exact this
  have := K l.length 0 (by omega)
  simpa using this
def toPumpS_el (x : S106) : S71 := ⟨x.f0, x.f1⟩
theorem toPumpS_ev (l : List S106) (hl : SmlL l) : Ev (fun k => laws_toPumpS.f k l) (l.map toPumpS_el) := by
  obtain ⟨hl, hr⟩ := hl
  apply EvP.eq
  unfold laws_toPumpS.f
  simp only [if_pos (show (0 : Int) ≤ (l.length : Int) by omega), Int.toNat_natCast, if_pos (show l.length ≤ 7036874417766 by omega)]
  refine for_evp (L := fun k (s : List S71) i => laws_toPumpS.l0 k l s i) l.length (fun i s => s = (l.take i).map toPumpS_el ++ List.replicate (l.length - i) z71) ?_ ?_ (List.replicate l.length z71) (by simp)
  · rintro i s hi rfl K
    have hlen := done_len toPumpS_el l z71 i (by omega)
    refine EvP.step (fun k => laws_toPumpS.l0.eq_2 _ _ _ k) ?_
    simp only [if_pos (show (i : Int) < (l.length : Int) by omega), if_pos (show (0 : Int) ≤ (i : Int) by omega), rd_LPump l i hi]
    have ht : Ev (fun k => laws_toPump.f k l[i].f0 l[i].f1) (l[i].f0, l[i].f1) := by
      unfold laws_toPump.f
      exact Ev.bind (toRows_ev _ (hr _ (List.getElem_mem hi))) (Ev.now _)
    refine EvP.bind ht ?_
    simp only [hlen, if_pos (show (i : Int) < (l.length : Int) by omega), w64 (show -9223372036854775808 ≤ (i : Int) + 1 by omega) (by omega), Int.toNat_natCast]
    refine K _ ?_
    show List.set _ i (toPumpS_el l[i]) = _
    exact map_done toPumpS_el l _ i hi
  · rintro s rfl
    refine EvP.step (fun k => laws_toPumpS.l0.eq_2 _ _ _ k) ?_
    simp only [if_neg (show ¬ (l.length : Int) < (l.length : Int) by omega)]
    exact EvP.now (by simp)
theorem eqRows_ev (l : List (List Int)) (hs : Sml l) : Ev (fun k => laws_eqInt64SS.f k l l) true := by
  obtain ⟨h1, h2⟩ := hs
  unfold laws_eqInt64SS.f
  simp only [if_true]
  have := all_ev (L := fun k i => laws_eqInt64SS.l0 k l l i) l (fun _ => true) true ?_ ?_ ?_
  · rwa [show (l.all (fun _ => true) && true) = true by simp] at this
  · intro i hi _ P K
    refine EvP.step (fun k => laws_eqInt64SS.l0.eq_2 _ _ _ k) ?_
    simp only [if_pos (show (i : Int) < (l.length : Int) by omega), if_pos (show (0 : Int) ≤ (i : Int) by omega), rdL l i hi]
    refine EvP.bind (eqInt64S_ev l[i] (h2 _ (List.getElem_mem hi))) ?_
    simp only [if_true, w64 (show -9223372036854775808 ≤ (i : Int) + 1 by omega) (by omega)]
    exact K
  · intro i hi h
    exact absurd h (by simp)
  · refine Ev.step (fun k => laws_eqInt64SS.l0.eq_2 _ _ _ k) ?_
    simp only [if_neg (show ¬ (l.length : Int) < (l.length : Int) by omega)]
    exact Ev.now _
theorem eqPumpS_ev (l : List S71) (hs : SmlP l) : Ev (fun k => laws_eqPumpS.f k l l) true := by
  obtain ⟨h1, h2⟩ := hs
  unfold laws_eqPumpS.f
  simp only [if_true]
  have := all_ev (L := fun k i => laws_eqPumpS.l0 k l l i) l (fun _ => true) true ?_ ?_ ?_
  · rwa [show (l.all (fun _ => true) && true) = true by simp] at this
  · intro i hi _ P K
    refine EvP.step (fun k => laws_eqPumpS.l0.eq_2 _ _ _ k) ?_
    simp only [if_pos (show (i : Int) < (l.length : Int) by omega), if_pos (show (0 : Int) ≤ (i : Int) by omega), rd_Pump l i hi]
    have he : Ev (fun k => laws_eqPump.f k l[i].f0 l[i].f1 l[i].f0 l[i].f1) true := by
      unfold laws_eqPump.f
      simp only [if_true]
      refine Ev.bind (eqRows_ev _ (h2 _ (List.getElem_mem hi))) ?_
      simp only [if_true]
      exact Ev.now _
    refine EvP.bind he ?_
    simp only [if_true, w64 (show -9223372036854775808 ≤ (i : Int) + 1 by omega) (by omega)]
    exact K
  · intro i hi h
    exact absurd h (by simp)
  · refine Ev.step (fun k => laws_eqPumpS.l0.eq_2 _ _ _ k) ?_
    simp only [if_neg (show ¬ (l.length : Int) < (l.length : Int) by omega)]
    exact Ev.now _
end Go.Proofs.Ytmfhncjkfhdlcaa.PDesk
end

section
namespace Go.Proofs.Ytmfhncjkfhdlcaa.PureFnExactSameDesk
open Go.RowKit Go.Proofs.YtmfhncjkfhdlcaaW.PrintWords Go.Proofs.Ytmfhncjkfhdlcaa.XM Go.Proofs.Ytmfhncjkfhdlcaa.EvK Go.Proofs.Ytmfhncjkfhdlcaa.SM Go.Proofs.Ytmfhncjkfhdlcaa.PDesk
set_option linter.unusedVariables false
set_option linter.unusedSimpArgs false
theorem ev_map {α β : Type} {g : Nat → Option α} {a : α} (F : α → β) (h : Ev g a) : Ev (fun k => (g k).map F) (F a) := by
  rw [show (fun k => (g k).map F) = (fun k => (g k).bind fun x => some (F x)) from funext fun k => by cases g k <;> rfl]
  exact Ev.bind h (Ev.now _)
def QD (d : laws_FnExactSameDesk.DA) : Prop := d.l0.length ≤ maxLen ∧ (d.l1.length ≤ maxLen ∧ ∀ y ∈ d.l1, Q136 y) ∧ d.l2.length ≤ maxLen ∧ (d.l3.length ≤ maxLen ∧ ∀ y ∈ d.l3, Q104 y) ∧ (d.l4.length ≤ maxLen ∧ ∀ y ∈ d.l4, Q106 y) ∧ (d.l5.length ≤ maxLen ∧ ∀ y ∈ d.l5, Q108 y) ∧ (d.l9.length ≤ maxLen ∧ ∀ y ∈ d.l9, Q110 y) ∧ (d.l10.length ≤ maxLen ∧ ∀ y ∈ d.l10, Q112 y) ∧ (d.l11.length ≤ maxLen ∧ ∀ y ∈ d.l11, Q114 y) ∧ (d.l12.length ≤ maxLen ∧ ∀ y ∈ d.l12, Q116 y)
def SmD (d : laws_FnExactSameDesk.DA) : Prop := d.l0.length ≤ 1048576 ∧ d.l1.length ≤ 1048576 ∧ d.l2.length ≤ 1048576 ∧ d.l3.length ≤ 1048576 ∧ SmlL d.l4 ∧ d.l5.length ≤ 1048576 ∧ d.l9.length ≤ 1048576 ∧ d.l10.length ≤ 1048576 ∧ d.l11.length ≤ 1048576 ∧ d.l12.length ≤ 1048576
def SmI (d : laws_FnExactSameDesk.DI) : Prop := d.l0.length ≤ 1048576 ∧ d.l1.length ≤ 1048576 ∧ d.l2.length ≤ 1048576 ∧ d.l3.length ≤ 1048576 ∧ SmlP d.l4 ∧ d.l5.length ≤ 1048576 ∧ d.l9.length ≤ 1048576 ∧ d.l10.length ≤ 1048576 ∧ d.l11.length ≤ 1048576 ∧ d.l12.length ≤ 1048576
theorem szN (a : List Int) (b : List S136) (left : Int) (h0 : 0 ≤ left) (h1 : left ≤ 1048576) (ha : a.length ≤ maxLen) (hb : b.length ≤ maxLen ∧ ∀ y ∈ b, Q136 y) : EvP (fun k => laws_szNetwork.f k a b left) (fun t => t ≤ left ∧ (0 ≤ t → a.length ≤ 1048576 ∧ b.length ≤ 1048576)) := by
  unfold laws_szNetwork.f
  obtain ⟨t, e, ht, hs⟩ := szInt64S_val a left h0 h1 ha
  simp only [e, Option.bind_some]
  by_cases c : t < 0
  · simp only [if_pos c]
    exact EvP.now ⟨by omega, by omega⟩
  simp only [if_neg c]
  refine EvP.bindP (szPipeS_ev b t (by omega) (by omega) hb) ?_
  rintro u ⟨hu, hv⟩
  by_cases c1 : u < 0
  · simp only [if_pos c1]
    exact EvP.now ⟨by omega, by omega⟩
  simp only [if_neg c1]
  exact EvP.now ⟨by omega, fun h => ⟨hs (by omega), (hv h).1⟩⟩
theorem szD (d : laws_FnExactSameDesk.DA) (left : Int) (h0 : 0 ≤ left) (h1 : left ≤ 1048576) (hq : QD d) : EvP (fun k => laws_FnExactSameDesk.szf k d left) (fun t => t ≤ left ∧ (0 ≤ t → SmD d)) := by
  obtain ⟨q0, q1, q2, q3, q4, q5, q9, q10, q11, q12⟩ := hq
  unfold laws_FnExactSameDesk.szf laws_szDesk.f
  refine EvP.bindP (szN d.l0 d.l1 left (by omega) (by omega) q0 q1) ?_
  rintro t1 ⟨u1, s1⟩
  by_cases c1 : t1 < 0
  · simp only [if_pos c1]
    exact EvP.now ⟨by omega, by omega⟩
  simp only [if_neg c1]
  obtain ⟨t2, e2, u2, s2⟩ := szInt64S_val d.l2 t1 (by omega) (by omega) q2
  simp only [e2, Option.bind_some]
  by_cases c2 : t2 < 0
  · simp only [if_pos c2]
    exact EvP.now ⟨by omega, by omega⟩
  simp only [if_neg c2]
  refine EvP.bindP (szValveS_ev d.l3 t2 (by omega) (by omega) q3) ?_
  rintro t3 ⟨u3, s3⟩
  by_cases c3 : t3 < 0
  · simp only [if_pos c3]
    exact EvP.now ⟨by omega, by omega⟩
  simp only [if_neg c3]
  refine EvP.bindP (szPumpS_ev d.l4 t3 (by omega) (by omega) q4) ?_
  rintro t4 ⟨u4, s4⟩
  by_cases c4 : t4 < 0
  · simp only [if_pos c4]
    exact EvP.now ⟨by omega, by omega⟩
  simp only [if_neg c4]
  refine EvP.bindP (szSubstationS_ev d.l5 t4 (by omega) (by omega) q5) ?_
  rintro t5 ⟨u5, s5⟩
  by_cases c5 : t5 < 0
  · simp only [if_pos c5]
    exact EvP.now ⟨by omega, by omega⟩
  simp only [if_neg c5]
  refine EvP.bindP (szFuelS_ev d.l9 t5 (by omega) (by omega) q9) ?_
  rintro t6 ⟨u6, s6⟩
  by_cases c6 : t6 < 0
  · simp only [if_pos c6]
    exact EvP.now ⟨by omega, by omega⟩
  simp only [if_neg c6]
  refine EvP.bindP (szRepairS_ev d.l10 t6 (by omega) (by omega) q10) ?_
  rintro t7 ⟨u7, s7⟩
  by_cases c7 : t7 < 0
  · simp only [if_pos c7]
    exact EvP.now ⟨by omega, by omega⟩
  simp only [if_neg c7]
  refine EvP.bindP (szTenantS_ev d.l11 t7 (by omega) (by omega) q11) ?_
  rintro t8 ⟨u8, s8⟩
  by_cases c8 : t8 < 0
  · simp only [if_pos c8]
    exact EvP.now ⟨by omega, by omega⟩
  simp only [if_neg c8]
  refine EvP.bindP (szDutyS_ev d.l12 t8 (by omega) (by omega) q12) ?_
  rintro t9 ⟨u9, s9⟩
  by_cases c9 : t9 < 0
  · simp only [if_pos c9]
    exact EvP.now ⟨by omega, by omega⟩
  simp only [if_neg c9]
  exact EvP.now ⟨by omega, fun _ => ⟨(s1 (by omega)).1, (s1 (by omega)).2, s2 (by omega), (s3 (by omega)).1, s4 (by omega), (s5 (by omega)).1, (s6 (by omega)).1, (s7 (by omega)).1, (s8 (by omega)).1, (s9 (by omega)).1⟩⟩
def im (d : laws_FnExactSameDesk.DA) : laws_FnExactSameDesk.DI := ⟨d.l0.map toInt64S_el, d.l1.map toPipeS_el, d.l2.map toInt64S_el, d.l3.map toValveS_el, d.l4.map toPumpS_el, d.l5.map toSubstationS_el, d.a6, d.a7, d.a8, d.l9.map toFuelS_el, d.l10.map toRepairS_el, d.l11.map toTenantS_el, d.l12.map toDutyS_el⟩
theorem imS (d : laws_FnExactSameDesk.DA) (h : SmD d) : SmI (im d) := by
  obtain ⟨h0, h1, h2, h3, h4, h5, h9, h10, h11, h12⟩ := h
  unfold SmI im
  simp only [List.length_map]
  refine ⟨h0, h1, h2, h3, ?_, h5, h9, h10, h11, h12⟩
  refine ⟨by rw [List.length_map]; exact h4.1, fun x hx => ?_⟩
  obtain ⟨y, hy, rfl⟩ := List.mem_map.1 hx
  exact h4.2 y hy
theorem toD (d : laws_FnExactSameDesk.DA) (h : SmD d) : Ev (fun k => laws_FnExactSameDesk.tof k d) (im d) := by
  obtain ⟨h0, h1, h2, h3, h4, h5, h9, h10, h11, h12⟩ := h
  unfold laws_FnExactSameDesk.tof
  have hn : Ev (fun k => laws_toNetwork.f k d.l0 d.l1) (d.l0.map toInt64S_el, d.l1.map toPipeS_el) := by
    unfold laws_toNetwork.f
    exact Ev.bind (toInt64S_ev _ h0) (Ev.bind (toPipeS_ev _ h1) (Ev.now _))
  have ht : Ev (fun k => laws_toDesk.f k d.l0 d.l1 d.l2 d.l3 d.l4 d.l5 d.a6 d.a7 d.a8 d.l9 d.l10 d.l11 d.l12) (d.l0.map toInt64S_el, d.l1.map toPipeS_el, d.l2.map toInt64S_el, d.l3.map toValveS_el, d.l4.map toPumpS_el, d.l5.map toSubstationS_el, d.a6, d.a7, d.a8, d.l9.map toFuelS_el, d.l10.map toRepairS_el, d.l11.map toTenantS_el, d.l12.map toDutyS_el) := by
    unfold laws_toDesk.f
    refine Ev.bind hn ?_
    refine Ev.bind (toInt64S_ev _ h2) ?_
    refine Ev.bind (toValveS_ev _ h3) ?_
    refine Ev.bind (toPumpS_ev _ h4) ?_
    refine Ev.bind (toSubstationS_ev _ h5) ?_
    unfold laws_toTank.f
    simp only [Option.bind_some]
    refine Ev.bind (toFuelS_ev _ h9) ?_
    refine Ev.bind (toRepairS_ev _ h10) ?_
    refine Ev.bind (toTenantS_ev _ h11) ?_
    refine Ev.bind (toDutyS_ev _ h12) ?_
    exact Ev.now _
  exact ev_map _ ht
noncomputable def ans (x y : laws_FnExactSameDesk.DI) : Bool := (sm x.l0 y.l0 && sm x.l1 y.l1) && (sm x.l2 y.l2 && ((x.a6 == y.a6 && (x.a7 == y.a7 && (x.a8 == y.a8))) && (sm x.l3 y.l3 && (sm x.l4 y.l4 && (sm x.l5 y.l5 && (sm x.l9 y.l9 && (sm x.l10 y.l10 && (sm x.l11 y.l11 && sm x.l12 y.l12))))))))
theorem swap : ∀ t v p s r : Bool, (t && (v && (p && (s && r)))) = (v && (p && (s && (t && r)))) := by decide
theorem imD (x y : laws_FnExactSameDesk.DI) (h : SmI x) : Ev (fun k => laws_FnExactSameDesk.imf k x y) (ans x y) := by
  obtain ⟨h0, h1, h2, h3, h4, h5, h9, h10, h11, h12⟩ := h
  unfold laws_FnExactSameDesk.imf impl_SameDesk.f ans
  rw [swap]
  refine Ev.bind (same_net _ _ _ _ h0 h1) ?_
  cases (sm x.l0 y.l0 && sm x.l1 y.l1) with
  | false => simp only [Bool.false_eq_true, if_false, Bool.false_and, Bool.and_false]; exact Ev.now _
  | true =>
    simp only [if_true, Bool.true_and]
    refine Ev.bind (same_ints _ _ h2) ?_
    cases sm x.l2 y.l2 with
    | false => simp only [Bool.false_eq_true, if_false, Bool.false_and, Bool.and_false]; exact Ev.now _
    | true =>
      simp only [if_true, Bool.true_and]
      refine Ev.bind (same_Valve _ _ h3) ?_
      cases sm x.l3 y.l3 with
      | false => simp only [Bool.false_eq_true, if_false, Bool.false_and, Bool.and_false]; exact Ev.now _
      | true =>
        simp only [if_true, Bool.true_and]
        refine Ev.bind (same_pumps _ _ h4) ?_
        cases sm x.l4 y.l4 with
        | false => simp only [Bool.false_eq_true, if_false, Bool.false_and, Bool.and_false]; exact Ev.now _
        | true =>
          simp only [if_true, Bool.true_and]
          refine Ev.bind (same_Substation _ _ h5) ?_
          cases sm x.l5 y.l5 with
          | false => simp only [Bool.false_eq_true, if_false, Bool.false_and, Bool.and_false]; exact Ev.now _
          | true =>
            simp only [if_true, Bool.true_and]
            cases (x.a6 == y.a6 && (x.a7 == y.a7 && (x.a8 == y.a8))) with
            | false => simp only [Bool.false_eq_true, if_false, Bool.false_and, Bool.and_false]; exact Ev.now _
            | true =>
              simp only [if_true, Bool.true_and]
              refine Ev.bind (same_Fuel _ _ h9) ?_
              cases sm x.l9 y.l9 with
              | false => simp only [Bool.false_eq_true, if_false, Bool.false_and, Bool.and_false]; exact Ev.now _
              | true =>
                simp only [if_true, Bool.true_and]
                refine Ev.bind (same_Repair _ _ h10) ?_
                cases sm x.l10 y.l10 with
                | false => simp only [Bool.false_eq_true, if_false, Bool.false_and, Bool.and_false]; exact Ev.now _
                | true =>
                  simp only [if_true, Bool.true_and]
                  refine Ev.bind (same_Tenant _ _ h11) ?_
                  cases sm x.l11 y.l11 with
                  | false => simp only [Bool.false_eq_true, if_false, Bool.false_and, Bool.and_false]; exact Ev.now _
                  | true =>
                    simp only [if_true, Bool.true_and]
                    exact Ev.bind (same_Duty _ _ h12) (Ev.now _)
theorem spD (x y : laws_FnExactSameDesk.DI) (h : SmI x) : Ev (fun k => laws_FnExactSameDesk.spf k x y) (ans x y) := by
  obtain ⟨h0, h1, h2, h3, h4, h5, h9, h10, h11, h12⟩ := h
  unfold laws_FnExactSameDesk.spf spec_SameDesk.f ans
  refine Ev.bind (spec_net _ _ _ _ h0 h1) ?_
  cases (sm x.l0 y.l0 && sm x.l1 y.l1) with
  | false => simp only [Bool.false_eq_true, if_false, Bool.false_and, Bool.and_false]; exact Ev.now _
  | true =>
    simp only [if_true, Bool.true_and]
    refine Ev.bind (spec_ints _ _ h2) ?_
    cases sm x.l2 y.l2 with
    | false => simp only [Bool.false_eq_true, if_false, Bool.false_and, Bool.and_false]; exact Ev.now _
    | true =>
      simp only [if_true, Bool.true_and]
      rw [show (!(x.a6 == y.a6) || (!(x.a7 == y.a7) || (!(x.a8 == y.a8)))) = !(x.a6 == y.a6 && (x.a7 == y.a7 && (x.a8 == y.a8))) by simp only [Bool.not_and]]
      cases (x.a6 == y.a6 && (x.a7 == y.a7 && (x.a8 == y.a8))) with
      | false => simp only [Bool.not_false, if_true, Bool.false_and]; exact Ev.now _
      | true =>
        simp only [Bool.not_true, Bool.false_eq_true, if_false, Bool.true_and]
        by_cases hl : spec_SameDesk.lens x.l3 x.l4 x.l5 x.l9 x.l10 x.l11 x.l12 y.l3 y.l4 y.l5 y.l9 y.l10 y.l11 y.l12 = true
        rotate_left
        · simp only [if_neg hl]
          have e : (sm x.l3 y.l3 && (sm x.l4 y.l4 && (sm x.l5 y.l5 && (sm x.l9 y.l9 && (sm x.l10 y.l10 && (sm x.l11 y.l11 && sm x.l12 y.l12)))))) = false := by
            cases hA : (sm x.l3 y.l3 && (sm x.l4 y.l4 && (sm x.l5 y.l5 && (sm x.l9 y.l9 && (sm x.l10 y.l10 && (sm x.l11 y.l11 && sm x.l12 y.l12)))))) with
            | false => rfl
            | true =>
              simp only [Bool.and_eq_true, sm_iff] at hA
              obtain ⟨e3, e4, e5, e9, e10, e11, e12⟩ := hA
              exact absurd (by unfold spec_SameDesk.lens; simp [e3, e4, e5, e9, e10, e11, e12]) hl
          rw [e]
          exact Ev.now _
        have hs : spec_SameDesk.small x.l3 x.l4 x.l5 x.l9 x.l10 x.l11 x.l12 = true := by
          unfold spec_SameDesk.small
          have := h4.1
          simp only [Bool.and_eq_true, decide_eq_true_eq]
          exact ⟨⟨⟨⟨⟨⟨by omega, by omega⟩, by omega⟩, by omega⟩, by omega⟩, by omega⟩, by omega⟩
        simp only [if_pos hl, if_pos hs]
        unfold spec_SameDesk.lens at hl
        simp only [Bool.and_eq_true, beq_iff_eq] at hl
        obtain ⟨⟨⟨⟨⟨⟨e3, e4⟩, e5⟩, e9⟩, e10⟩, e11⟩, e12⟩ := hl
        refine Ev.bind (loop_Pump _ _ e4 h4) ?_
        rw [loop_Valve _ _ e3, loop_Substation _ _ e5, loop_Fuel _ _ e9, loop_Repair _ _ e10, loop_Tenant _ _ e11, loop_Duty _ _ e12]
        exact Ev.now _
theorem eqD (x : laws_FnExactSameDesk.DI) (h : SmI x) : Ev (fun k => laws_FnExactSameDesk.eqf k x x) true := by
  obtain ⟨h0, h1, h2, h3, h4, h5, h9, h10, h11, h12⟩ := h
  unfold laws_FnExactSameDesk.eqf laws_eqDesk.f
  have hn : Ev (fun k => laws_eqNetwork.f k x.l0 x.l1 x.l0 x.l1) true := by
    unfold laws_eqNetwork.f
    refine Ev.bind (eqInt64S_ev _ h0) ?_
    simp only [if_true]
    refine Ev.bind (eqPipeS_ev _ h1) ?_
    simp only [if_true]
    exact Ev.now _
  refine Ev.bind hn ?_
  simp only [if_true]
  refine Ev.bind (eqInt64S_ev _ h2) ?_
  simp only [if_true]
  refine Ev.bind (eqValveS_ev _ h3) ?_
  simp only [if_true]
  refine Ev.bind (eqPumpS_ev _ h4) ?_
  simp only [if_true]
  refine Ev.bind (eqSubstationS_ev _ h5) ?_
  simp only [if_true]
  unfold laws_eqTank.f
  simp only [if_true, Option.bind_some]
  refine Ev.bind (eqFuelS_ev _ h9) ?_
  simp only [if_true]
  refine Ev.bind (eqRepairS_ev _ h10) ?_
  simp only [if_true]
  refine Ev.bind (eqTenantS_ev _ h11) ?_
  simp only [if_true]
  refine Ev.bind (eqDutyS_ev _ h12) ?_
  simp only [if_true]
  exact Ev.now _
theorem pure : laws_FnExactSameDesk.Pure := by
  intro a b hqa hqb
  apply EvP.rounds
  unfold laws_FnExactSameDesk.f laws_FnExactSameDesk.F
  obtain ⟨d, hd⟩ : ∃ x, x = (⟨a.f0.f0, a.f0.f1, a.f1, a.f2, a.f3, a.f4, a.f5.f0, a.f5.f1, a.f5.f2, a.f6, a.f7, a.f8, a.f9⟩ : laws_FnExactSameDesk.DA) := ⟨_, rfl⟩
  rw [← hd]
  have Qd : QD d := by
    rw [hd]
    obtain ⟨⟨q0, q1⟩, q2, q3, q4, q5, q6, q9, q10, q11, q12⟩ := hqa
    exact ⟨q0.1, q1, q2.1, q3, q4, q5, q9, q10, q11, q12⟩
  obtain ⟨e, he⟩ : ∃ x, x = (⟨b.f0.f0, b.f0.f1, b.f1, b.f2, b.f3, b.f4, b.f5.f0, b.f5.f1, b.f5.f2, b.f6, b.f7, b.f8, b.f9⟩ : laws_FnExactSameDesk.DA) := ⟨_, rfl⟩
  rw [← he]
  have Qe : QD e := by
    rw [he]
    obtain ⟨⟨q0, q1⟩, q2, q3, q4, q5, q6, q9, q10, q11, q12⟩ := hqb
    exact ⟨q0.1, q1, q2.1, q3, q4, q5, q9, q10, q11, q12⟩
  refine EvP.bindP (szD d 1048576 (by omega) (by omega) Qd) ?_
  rintro t ⟨ht, hs⟩
  by_cases c : t < 0
  · simp only [if_pos c]
    exact EvP.now rfl
  simp only [if_neg c]
  refine EvP.bindP (szD e t (by omega) (by omega) Qe) ?_
  rintro u ⟨hu, hs'⟩
  by_cases c1 : u < 0
  · simp only [if_pos c1]
    exact EvP.now rfl
  simp only [if_neg c1]
  replace hs := hs (by omega)
  replace hs' := hs' (by omega)
  have hx := imS d hs
  have hy := imS e hs'
  refine EvP.bind (toD d hs) ?_
  refine EvP.bind (toD e hs') ?_
  refine EvP.bind (spD _ _ hx) ?_
  refine EvP.bind (imD _ _ hx) ?_
  simp only [if_true]
  refine EvP.bind (eqD _ hx) ?_
  simp only [if_true]
  refine EvP.bind (eqD _ hy) ?_
  simp only [if_true]
  exact EvP.now rfl
end Go.Proofs.Ytmfhncjkfhdlcaa.PureFnExactSameDesk
end

section
namespace Go.Proofs.Ytmfhncjkfhdlcaa.RowFnExactSameDesk
open Go.ChangeShapes Go.WideShapes Go.ChangeAt Go.RowKit Go.Proofs.YtmfhncjkfhdlcaaW.PrintWords Go.Proofs.Ytmfhncjkfhdlcaa.XM Go.Proofs.Ytmfhncjkfhdlcaa.Open
open Go.ChangeMaps (open_string shut_string)
set_option linter.unusedVariables false
theorem own : ownKnob Try.prog.godebug = none := by kernel_rfl
theorem laidOut : laidOutB Try.prog = true := by kernel_rfl
set_option maxRecDepth 100000 in
theorem lifted (os : Os) (started : os.Started) (H : Type) (enc : TypeId × Value → H) :
    ReturnsInHanded {} Try.checked os 3 .any (Rows.fnExactSameDeskSpec.pre6 enc Try.prog Try.f3 Rows.fnExactSameDeskRow.domain false) (Rows.fnExactSameDeskSpec.post enc Try.prog Try.f3 false true false false) := by
  refine returnsInHanded_of_change_sized (C := Try.checked) own started (by kernel_rfl) Try.func3
    (ChangeSpec.witness6 (enc := enc) (C := Try.checked) false ⟨#[], #[(.agg #[(.slice none 0 0), (.slice none 0 0), (.slice none 0 0), (.slice none 0 0), (.slice none 0 0), (.slice none 0 0), (.int .i64 0), (.int .i64 0), (.int .i64 0), (.slice none 0 0), (.slice none 0 0), (.slice none 0 0), (.slice none 0 0)]), (.agg #[(.slice none 0 0), (.slice none 0 0), (.slice none 0 0), (.slice none 0 0), (.slice none 0 0), (.slice none 0 0), (.int .i64 0), (.int .i64 0), (.int .i64 0), (.slice none 0 0), (.slice none 0 0), (.slice none 0 0), (.slice none 0 0)])], []⟩ 8 (by kernel_rfl) (by kernel_rfl) (by kernel_rfl) (by kernel_rfl)) ?_
  intro W base args ds gs before hval0 hW hcnd hsz0 _
  have hsz : (DataW.weightsEach Try.prog (Try.f3.params.toList ++ Rows.fnExactSameDeskSpec.plain.varTypes Try.prog) (ds ++ gs)).all (· ≤ reachBytes) = true := hsz0
  have hval : ∀ (j : Nat) t v, Try.f3.params[j]? = some t → args[j]? = some v → Value.okWide Try.prog W .any base t v := hval0
  have hW' := hW
  obtain ⟨p, q, hA0, hV, rfl, hfz, hnd⟩ := hW
  have hA : DataW.TrodAll enc Try.prog W 0 (fun _ => true) true Try.f3.params.toList args.toList ds p := hA0
  rw [Try.params3] at hA hval hsz
  obtain ⟨v0, vs0, d0, ds0, p0, q0, hargs, rfl, rfl, h0, r0⟩ := trodAll_cons hA
  obtain ⟨v1, vs1, d1, ds1, p1, q1, rfl, rfl, rfl, h1, r1⟩ := trodAll_cons r0
  obtain ⟨rfl, rfl, rfl⟩ := trodAll_nil r1
  obtain rfl : args = #[v0, v1] := by cases args; simp_all
  obtain ⟨rfl, rfl⟩ := trodVars_none hV
  have kk0 := h0
  have lt0 : ∀ x ∈ p0, x.block < W.heap.size := by obtain ⟨m, hm⟩ := kk0; exact DataW.trod_lt m _ _ _ hm
  obtain ⟨cs0, a0, rfl, hK0, hq0⟩ := open_st Try.underlying36 opens36 (hval 0 36 v0 rfl rfl) h0
  obtain ⟨A0_0, c0_0, A0_1, c0_1, A0_2, c0_2, A0_3, c0_3, A0_4, c0_4, A0_5, c0_5, A0_9, c0_9, A0_10, c0_10, A0_11, c0_11, A0_12, c0_12, rfl, hc0_0, hr0_0, hc0_1, hr0_1, hc0_2, hr0_2, hc0_3, hr0_3, hc0_4, hr0_4, hc0_5, hr0_5, hc0_9, hr0_9, hc0_10, hr0_10, hc0_11, hr0_11, hc0_12, hr0_12⟩ := k36_open hK0
  have kk1 := h1
  have lt1 : ∀ x ∈ p1, x.block < W.heap.size := by obtain ⟨m, hm⟩ := kk1; exact DataW.trod_lt m _ _ _ hm
  obtain ⟨cs1, a1, rfl, hK1, hq1⟩ := open_st Try.underlying36 opens36 (hval 1 36 v1 rfl rfl) h1
  obtain ⟨A1_0, c1_0, A1_1, c1_1, A1_2, c1_2, A1_3, c1_3, A1_4, c1_4, A1_5, c1_5, A1_9, c1_9, A1_10, c1_10, A1_11, c1_11, A1_12, c1_12, rfl, hc1_0, hr1_0, hc1_1, hr1_1, hc1_2, hr1_2, hc1_3, hr1_3, hc1_4, hr1_4, hc1_5, hr1_5, hc1_9, hr1_9, hc1_10, hr1_10, hc1_11, hr1_11, hc1_12, hr1_12⟩ := k36_open hK1
  obtain ⟨k, hp⟩ := PureFnExactSameDesk.pure a0 a1 hq0 hq1
  clear hA0 hval0 hsz0 hsz
  refine (laws_FnExactSameDesk.calls k A0_0 c0_0 a0.f0.f0 A0_1 c0_1 a0.f0.f1 A0_2 c0_2 a0.f1 A0_3 c0_3 a0.f2 A0_4 c0_4 a0.f3 A0_5 c0_5 a0.f4 a0.f5.f0 a0.f5.f1 a0.f5.f2 A0_9 c0_9 a0.f6 A0_10 c0_10 a0.f7 A0_11 c0_11 a0.f8 A0_12 c0_12 a0.f9 A1_0 c1_0 a1.f0.f0 A1_1 c1_1 a1.f0.f1 A1_2 c1_2 a1.f1 A1_3 c1_3 a1.f2 A1_4 c1_4 a1.f3 A1_5 c1_5 a1.f4 a1.f5.f0 a1.f5.f1 a1.f5.f2 A1_9 c1_9 a1.f6 A1_10 c1_10 a1.f7 A1_11 c1_11 a1.f8 A1_12 c1_12 a1.f9 true W hr0_0 hc0_0 hr0_1 hc0_1 hr0_2 hc0_2 hr0_3 hc0_3 hr0_4 hc0_4 hr0_5 hc0_5 hr0_9 hc0_9 hr0_10 hc0_10 hr0_11 hc0_11 hr0_12 hc0_12 hr1_0 hc1_0 hr1_1 hc1_1 hr1_2 hc1_2 hr1_3 hc1_3 hr1_4 hc1_4 hr1_5 hc1_5 hr1_9 hc1_9 hr1_10 hc1_10 hr1_11 hc1_11 hr1_12 hc1_12 hp).mono fun e W' ⟨he, bel0⟩ => ?_
  have bel : Below W.heap.size W W' := bel0
  subst he
  exact ⟨_, rfl, _, _, _, [], _, [], hW', trodAll_mk1 (shut_bool Try.underlying4 _), (trodAll_cons_mk (Below.trod laidOut (by kernel_rfl) (of_decide_eq_true (by kernel_rfl)) kk0 bel lt0) (trodAll_cons_mk (Below.trod laidOut (by kernel_rfl) (of_decide_eq_true (by kernel_rfl)) kk1 bel lt1) trodAll_mk0)), rfl, bel.frame _, fun h => by cases h⟩
theorem over : Rows.fnExactSameDeskRow.holds Try.pinned (OpenSpec.ofChange Rows.fnExactSameDeskSpec) :=
  OpenClaim.holds_of_wide 3 Try.f3 rfl rfl rfl rfl rfl rfl rfl ⟨rfl, rfl, rfl, rfl, rfl⟩ rfl rfl rfl rfl rfl (by kernel_rfl) Try.func3 (by kernel_rfl)
    (of_decide_eq_true (by kernel_rfl)) (by unfold Func.isWrapper; first | (rw [if_pos (by decide +kernel)]; kernel_rfl) | (rw [if_neg (by decide +kernel)]; exact ⟨rfl, rfl⟩))
    (fun os started H enc _ => lifted os started H enc)
end Go.Proofs.Ytmfhncjkfhdlcaa.RowFnExactSameDesk
namespace Go.Proofs.Ytmfhncjkfhdlcaa
theorem fnExactSameDesk_holds : Rows.FnExactSameDeskSaid := RowFnExactSameDesk.over
end Go.Proofs.Ytmfhncjkfhdlcaa
end
