/- The law FnExactNewDesk: part 3 of its texts, joined (wip/pack.py). -/
import Derived.Test.YtckhjpjcimjclaaKFnExactNewDeska
import Derived.Test.YtckhjpjcimjclaaKFnExactNewDeskb
import Derived.Test.YtckhjpjcimjclaaKFnExactNewDeskc

section
namespace Go.Proofs.Ytckhjpjcimjclaa.XR
open Go.RowKit Go.Proofs.YtckhjpjcimjclaaW.PrintWords Go.Proofs.YtckhjpjcimjclaaW.PrintLast Go.Proofs.YtckhjpjcimjclaaW.PrintMore
attribute [local go_sem] run_eql_slice_nil binOp_string_gtr' binOp_string_leq' binOp_string_geq' max2_int min2_int max_two min_two max_three min_three max_four min_four   -- for this text's walks alone
set_option linter.unusedVariables false
set_option linter.unusedSimpArgs false
def laws_heldPumpS.f (k : Nat) (l0 : List (S67)) (a1 : Int) : Option (Int) := if l0.length = 0 then some a1 else none
set_option maxHeartbeats 1000000 in
theorem laws_heldPumpS.calls (k : Nat) (A0 : Option Addr) (c0 : Nat) (l0 : List (S67)) (a1 : Int) (r : Int) (w : World) (hr0 : Kd.C k67 w A0 l0.length l0) (hc0 : l0.length ≤ c0) (h : laws_heldPumpS.f k l0 a1 = some r) :
  Calls Try.prog 32 #[.slice A0 l0.length c0, .int .i64 a1] w fun e w' => e = .returned (.int .i64 r) ∧ Below w.heap.size w w' := by
 unfold laws_heldPumpS.f at h
 by_cases hl : l0.length = 0
 ·rw [if_pos hl] at h
  simp only [Option.some.injEq] at h
  subst h
  rw [hl]
  clear hr0 hc0
  go_enter Try.func32, Try.ntmps32
  go_wp2
  go_loopw [1, 5] (fun v1 v5 wr => v1 = .int .i64 a1 ∧ v5 = .int .i64 0 ∧ wr = w) (fun _ _ _ => 0)
  case atStart => exact ⟨rfl, rfl, rfl⟩
  case round =>
   obtain ⟨rfl, rfl, rfl⟩ := hrel
   go_wp2
   go_ret
   exact ⟨rfl, Below.refl _ _⟩
 ·rw [if_neg hl] at h
  exact absurd h (by simp)
def laws_heldSubstationS.f (k : Nat) (l0 : List (S70)) (a1 : Int) : Option (Int) := if l0.length = 0 then some a1 else none
set_option maxHeartbeats 1000000 in
theorem laws_heldSubstationS.calls (k : Nat) (A0 : Option Addr) (c0 : Nat) (l0 : List (S70)) (a1 : Int) (r : Int) (w : World) (hr0 : Kd.C k70 w A0 l0.length l0) (hc0 : l0.length ≤ c0) (h : laws_heldSubstationS.f k l0 a1 = some r) :
  Calls Try.prog 33 #[.slice A0 l0.length c0, .int .i64 a1] w fun e w' => e = .returned (.int .i64 r) ∧ Below w.heap.size w w' := by
 unfold laws_heldSubstationS.f at h
 by_cases hl : l0.length = 0
 ·rw [if_pos hl] at h
  simp only [Option.some.injEq] at h
  subst h
  rw [hl]
  clear hr0 hc0
  go_enter Try.func33, Try.ntmps33
  go_wp2
  go_loopw [1, 5] (fun v1 v5 wr => v1 = .int .i64 a1 ∧ v5 = .int .i64 0 ∧ wr = w) (fun _ _ _ => 0)
  case atStart => exact ⟨rfl, rfl, rfl⟩
  case round =>
   obtain ⟨rfl, rfl, rfl⟩ := hrel
   go_wp2
   go_ret
   exact ⟨rfl, Below.refl _ _⟩
 ·rw [if_neg hl] at h
  exact absurd h (by simp)
def laws_heldFuelS.f (k : Nat) (l0 : List (S73)) (a1 : Int) : Option (Int) := if l0.length = 0 then some a1 else none
set_option maxHeartbeats 1000000 in
theorem laws_heldFuelS.calls (k : Nat) (A0 : Option Addr) (c0 : Nat) (l0 : List (S73)) (a1 : Int) (r : Int) (w : World) (hr0 : Kd.C k73 w A0 l0.length l0) (hc0 : l0.length ≤ c0) (h : laws_heldFuelS.f k l0 a1 = some r) :
  Calls Try.prog 34 #[.slice A0 l0.length c0, .int .i64 a1] w fun e w' => e = .returned (.int .i64 r) ∧ Below w.heap.size w w' := by
 unfold laws_heldFuelS.f at h
 by_cases hl : l0.length = 0
 ·rw [if_pos hl] at h
  simp only [Option.some.injEq] at h
  subst h
  rw [hl]
  clear hr0 hc0
  go_enter Try.func34, Try.ntmps34
  go_wp2
  go_loopw [1, 5] (fun v1 v5 wr => v1 = .int .i64 a1 ∧ v5 = .int .i64 0 ∧ wr = w) (fun _ _ _ => 0)
  case atStart => exact ⟨rfl, rfl, rfl⟩
  case round =>
   obtain ⟨rfl, rfl, rfl⟩ := hrel
   go_wp2
   go_ret
   exact ⟨rfl, Below.refl _ _⟩
 ·rw [if_neg hl] at h
  exact absurd h (by simp)
def laws_heldRepairS.f (k : Nat) (l0 : List (S76)) (a1 : Int) : Option (Int) := if l0.length = 0 then some a1 else none
set_option maxHeartbeats 1000000 in
theorem laws_heldRepairS.calls (k : Nat) (A0 : Option Addr) (c0 : Nat) (l0 : List (S76)) (a1 : Int) (r : Int) (w : World) (hr0 : Kd.C k76 w A0 l0.length l0) (hc0 : l0.length ≤ c0) (h : laws_heldRepairS.f k l0 a1 = some r) :
  Calls Try.prog 35 #[.slice A0 l0.length c0, .int .i64 a1] w fun e w' => e = .returned (.int .i64 r) ∧ Below w.heap.size w w' := by
 unfold laws_heldRepairS.f at h
 by_cases hl : l0.length = 0
 ·rw [if_pos hl] at h
  simp only [Option.some.injEq] at h
  subst h
  rw [hl]
  clear hr0 hc0
  go_enter Try.func35, Try.ntmps35
  go_wp2
  go_loopw [1, 5] (fun v1 v5 wr => v1 = .int .i64 a1 ∧ v5 = .int .i64 0 ∧ wr = w) (fun _ _ _ => 0)
  case atStart => exact ⟨rfl, rfl, rfl⟩
  case round =>
   obtain ⟨rfl, rfl, rfl⟩ := hrel
   go_wp2
   go_ret
   exact ⟨rfl, Below.refl _ _⟩
 ·rw [if_neg hl] at h
  exact absurd h (by simp)
def laws_heldTenantS.f (k : Nat) (l0 : List (S79)) (a1 : Int) : Option (Int) := if l0.length = 0 then some a1 else none
set_option maxHeartbeats 1000000 in
theorem laws_heldTenantS.calls (k : Nat) (A0 : Option Addr) (c0 : Nat) (l0 : List (S79)) (a1 : Int) (r : Int) (w : World) (hr0 : Kd.C k79 w A0 l0.length l0) (hc0 : l0.length ≤ c0) (h : laws_heldTenantS.f k l0 a1 = some r) :
  Calls Try.prog 36 #[.slice A0 l0.length c0, .int .i64 a1] w fun e w' => e = .returned (.int .i64 r) ∧ Below w.heap.size w w' := by
 unfold laws_heldTenantS.f at h
 by_cases hl : l0.length = 0
 ·rw [if_pos hl] at h
  simp only [Option.some.injEq] at h
  subst h
  rw [hl]
  clear hr0 hc0
  go_enter Try.func36, Try.ntmps36
  go_wp2
  go_loopw [1, 5] (fun v1 v5 wr => v1 = .int .i64 a1 ∧ v5 = .int .i64 0 ∧ wr = w) (fun _ _ _ => 0)
  case atStart => exact ⟨rfl, rfl, rfl⟩
  case round =>
   obtain ⟨rfl, rfl, rfl⟩ := hrel
   go_wp2
   go_ret
   exact ⟨rfl, Below.refl _ _⟩
 ·rw [if_neg hl] at h
  exact absurd h (by simp)
def laws_heldDutyS.f (k : Nat) (l0 : List (S82)) (a1 : Int) : Option (Int) := if l0.length = 0 then some a1 else none
set_option maxHeartbeats 1000000 in
theorem laws_heldDutyS.calls (k : Nat) (A0 : Option Addr) (c0 : Nat) (l0 : List (S82)) (a1 : Int) (r : Int) (w : World) (hr0 : Kd.C k82 w A0 l0.length l0) (hc0 : l0.length ≤ c0) (h : laws_heldDutyS.f k l0 a1 = some r) :
  Calls Try.prog 37 #[.slice A0 l0.length c0, .int .i64 a1] w fun e w' => e = .returned (.int .i64 r) ∧ Below w.heap.size w w' := by
 unfold laws_heldDutyS.f at h
 by_cases hl : l0.length = 0
 ·rw [if_pos hl] at h
  simp only [Option.some.injEq] at h
  subst h
  rw [hl]
  clear hr0 hc0
  go_enter Try.func37, Try.ntmps37
  go_wp2
  go_loopw [1, 5] (fun v1 v5 wr => v1 = .int .i64 a1 ∧ v5 = .int .i64 0 ∧ wr = w) (fun _ _ _ => 0)
  case atStart => exact ⟨rfl, rfl, rfl⟩
  case round =>
   obtain ⟨rfl, rfl, rfl⟩ := hrel
   go_wp2
   go_ret
   exact ⟨rfl, Below.refl _ _⟩
 ·rw [if_neg hl] at h
  exact absurd h (by simp)
end Go.Proofs.Ytckhjpjcimjclaa.XR
end
