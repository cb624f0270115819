/- The law FnExactNewDesk: part 2 of its texts, joined (wip/pack.py). -/
import Derived.Test.YtckhjpjcimjclaaKFnExactNewDeska
import Derived.Test.YtckhjpjcimjclaaKFnExactNewDeskb

section
namespace Go.Proofs.Ytckhjpjcimjclaa.XR
open Go.RowKit Go.Proofs.YtckhjpjcimjclaaW.PrintWords Go.Proofs.YtckhjpjcimjclaaW.PrintLast Go.Proofs.YtckhjpjcimjclaaW.PrintMore
attribute [local go_sem] run_eql_slice_nil binOp_string_gtr' binOp_string_leq' binOp_string_geq' max2_int min2_int max_two min_two max_three min_three max_four min_four   -- for this text's walks alone
set_option linter.unusedVariables false
set_option linter.unusedSimpArgs false
def laws_eqDesk.f (k : Nat) (l0_0 : List Int) (l0_1 : List (S88)) (l0_2 : List Int) (l0_3 : List (S63)) (l0_4 : List (S67)) (l0_5 : List (S70)) (a0_6 : Int) (a0_7 : Int) (a0_8 : Int) (l0_9 : List (S73)) (l0_10 : List (S76)) (l0_11 : List (S79)) (l0_12 : List (S82)) (l1_0 : List Int) (l1_1 : List (S88)) (l1_2 : List Int) (l1_3 : List (S63)) (l1_4 : List (S67)) (l1_5 : List (S70)) (a1_6 : Int) (a1_7 : Int) (a1_8 : Int) (l1_9 : List (S73)) (l1_10 : List (S76)) (l1_11 : List (S79)) (l1_12 : List (S82)) : Option (Bool) := (laws_eqNetwork.f k l0_0 l0_1 l1_0 l1_1).bind fun t156 => (if t156 = true then ((laws_eqInt64S.f k l0_2 l1_2).bind fun t157 => (if t157 = true then ((laws_eqValveS.f k l0_3 l1_3).bind fun t158 => (if t158 = true then ((laws_eqPumpS.f k l0_4 l1_4).bind fun t159 => (if t159 = true then ((laws_eqSubstationS.f k l0_5 l1_5).bind fun t160 => (if t160 = true then ((laws_eqTank.f a0_6 a0_7 a0_8 a1_6 a1_7 a1_8).bind fun t161 => (if t161 = true then ((laws_eqFuelS.f k l0_9 l1_9).bind fun t162 => (if t162 = true then ((laws_eqRepairS.f k l0_10 l1_10).bind fun t163 => (if t163 = true then ((laws_eqTenantS.f k l0_11 l1_11).bind fun t164 => (if t164 = true then ((laws_eqDutyS.f k l0_12 l1_12).bind fun t165 => (if t165 = true then (some true) else (none))) else (none))) else (none))) else (none))) else (none))) else (none))) else (none))) else (none))) else (none))) else (none))
set_option maxHeartbeats 8000000 in
set_option maxRecDepth 100000 in
theorem laws_eqDesk.calls (k : Nat) (A0_0 : Option Addr) (c0_0 : Nat) (l0_0 : List Int) (A0_1 : Option Addr) (c0_1 : Nat) (l0_1 : List (S88)) (A0_2 : Option Addr) (c0_2 : Nat) (l0_2 : List Int) (A0_3 : Option Addr) (c0_3 : Nat) (l0_3 : List (S63)) (A0_4 : Option Addr) (c0_4 : Nat) (l0_4 : List (S67)) (A0_5 : Option Addr) (c0_5 : Nat) (l0_5 : List (S70)) (a0_6 : Int) (a0_7 : Int) (a0_8 : Int) (A0_9 : Option Addr) (c0_9 : Nat) (l0_9 : List (S73)) (A0_10 : Option Addr) (c0_10 : Nat) (l0_10 : List (S76)) (A0_11 : Option Addr) (c0_11 : Nat) (l0_11 : List (S79)) (A0_12 : Option Addr) (c0_12 : Nat) (l0_12 : List (S82)) (A1_0 : Option Addr) (c1_0 : Nat) (l1_0 : List Int) (A1_1 : Option Addr) (c1_1 : Nat) (l1_1 : List (S88)) (A1_2 : Option Addr) (c1_2 : Nat) (l1_2 : List Int) (A1_3 : Option Addr) (c1_3 : Nat) (l1_3 : List (S63)) (A1_4 : Option Addr) (c1_4 : Nat) (l1_4 : List (S67)) (A1_5 : Option Addr) (c1_5 : Nat) (l1_5 : List (S70)) (a1_6 : Int) (a1_7 : Int) (a1_8 : Int) (A1_9 : Option Addr) (c1_9 : Nat) (l1_9 : List (S73)) (A1_10 : Option Addr) (c1_10 : Nat) (l1_10 : List (S76)) (A1_11 : Option Addr) (c1_11 : Nat) (l1_11 : List (S79)) (A1_12 : Option Addr) (c1_12 : Nat) (l1_12 : List (S82)) (r : Bool) (w : World) (hr0_0 : Kd.C (Kd.int .i64) w A0_0 l0_0.length l0_0) (hc0_0 : l0_0.length ≤ c0_0) (hr0_1 : Kd.C k88 w A0_1 l0_1.length l0_1) (hc0_1 : l0_1.length ≤ c0_1) (hr0_2 : Kd.C (Kd.int .i64) w A0_2 l0_2.length l0_2) (hc0_2 : l0_2.length ≤ c0_2) (hr0_3 : Kd.C k63 w A0_3 l0_3.length l0_3) (hc0_3 : l0_3.length ≤ c0_3) (hr0_4 : Kd.C k67 w A0_4 l0_4.length l0_4) (hc0_4 : l0_4.length ≤ c0_4) (hr0_5 : Kd.C k70 w A0_5 l0_5.length l0_5) (hc0_5 : l0_5.length ≤ c0_5) (hr0_9 : Kd.C k73 w A0_9 l0_9.length l0_9) (hc0_9 : l0_9.length ≤ c0_9) (hr0_10 : Kd.C k76 w A0_10 l0_10.length l0_10) (hc0_10 : l0_10.length ≤ c0_10) (hr0_11 : Kd.C k79 w A0_11 l0_11.length l0_11) (hc0_11 : l0_11.length ≤ c0_11) (hr0_12 : Kd.C k82 w A0_12 l0_12.length l0_12) (hc0_12 : l0_12.length ≤ c0_12) (hr1_0 : Kd.C (Kd.int .i64) w A1_0 l1_0.length l1_0) (hc1_0 : l1_0.length ≤ c1_0) (hr1_1 : Kd.C k88 w A1_1 l1_1.length l1_1) (hc1_1 : l1_1.length ≤ c1_1) (hr1_2 : Kd.C (Kd.int .i64) w A1_2 l1_2.length l1_2) (hc1_2 : l1_2.length ≤ c1_2) (hr1_3 : Kd.C k63 w A1_3 l1_3.length l1_3) (hc1_3 : l1_3.length ≤ c1_3) (hr1_4 : Kd.C k67 w A1_4 l1_4.length l1_4) (hc1_4 : l1_4.length ≤ c1_4) (hr1_5 : Kd.C k70 w A1_5 l1_5.length l1_5) (hc1_5 : l1_5.length ≤ c1_5) (hr1_9 : Kd.C k73 w A1_9 l1_9.length l1_9) (hc1_9 : l1_9.length ≤ c1_9) (hr1_10 : Kd.C k76 w A1_10 l1_10.length l1_10) (hc1_10 : l1_10.length ≤ c1_10) (hr1_11 : Kd.C k79 w A1_11 l1_11.length l1_11) (hc1_11 : l1_11.length ≤ c1_11) (hr1_12 : Kd.C k82 w A1_12 l1_12.length l1_12) (hc1_12 : l1_12.length ≤ c1_12) (h : laws_eqDesk.f k l0_0 l0_1 l0_2 l0_3 l0_4 l0_5 a0_6 a0_7 a0_8 l0_9 l0_10 l0_11 l0_12 l1_0 l1_1 l1_2 l1_3 l1_4 l1_5 a1_6 a1_7 a1_8 l1_9 l1_10 l1_11 l1_12 = some r) :
  Calls Try.prog 6 #[.agg #[.slice A0_0 l0_0.length c0_0, .slice A0_1 l0_1.length c0_1, .slice A0_2 l0_2.length c0_2, .slice A0_3 l0_3.length c0_3, .slice A0_4 l0_4.length c0_4, .slice A0_5 l0_5.length c0_5, .int .i64 a0_6, .int .i64 a0_7, .int .i64 a0_8, .slice A0_9 l0_9.length c0_9, .slice A0_10 l0_10.length c0_10, .slice A0_11 l0_11.length c0_11, .slice A0_12 l0_12.length c0_12], .agg #[.slice A1_0 l1_0.length c1_0, .slice A1_1 l1_1.length c1_1, .slice A1_2 l1_2.length c1_2, .slice A1_3 l1_3.length c1_3, .slice A1_4 l1_4.length c1_4, .slice A1_5 l1_5.length c1_5, .int .i64 a1_6, .int .i64 a1_7, .int .i64 a1_8, .slice A1_9 l1_9.length c1_9, .slice A1_10 l1_10.length c1_10, .slice A1_11 l1_11.length c1_11, .slice A1_12 l1_12.length c1_12]] w fun e w' => e = .returned (.bool r) ∧ Below w.heap.size w w' := by
 have hu36 := Try.underlying36
 have hu25 := Try.underlying25
 have hu30 := Try.underlying30
 have HR0_0 := Aside0.mk hr0_0
 have HC0_0 := Aside0.mk hc0_0
 clear hr0_0 hc0_0
 have HR0_1 := Aside0.mk hr0_1
 have HC0_1 := Aside0.mk hc0_1
 clear hr0_1 hc0_1
 have HR0_2 := Aside0.mk hr0_2
 have HC0_2 := Aside0.mk hc0_2
 clear hr0_2 hc0_2
 have HR0_3 := Aside0.mk hr0_3
 have HC0_3 := Aside0.mk hc0_3
 clear hr0_3 hc0_3
 have HR0_4 := Aside0.mk hr0_4
 have HC0_4 := Aside0.mk hc0_4
 clear hr0_4 hc0_4
 have HR0_5 := Aside0.mk hr0_5
 have HC0_5 := Aside0.mk hc0_5
 clear hr0_5 hc0_5
 have HR0_9 := Aside0.mk hr0_9
 have HC0_9 := Aside0.mk hc0_9
 clear hr0_9 hc0_9
 have HR0_10 := Aside0.mk hr0_10
 have HC0_10 := Aside0.mk hc0_10
 clear hr0_10 hc0_10
 have HR0_11 := Aside0.mk hr0_11
 have HC0_11 := Aside0.mk hc0_11
 clear hr0_11 hc0_11
 have HR0_12 := Aside0.mk hr0_12
 have HC0_12 := Aside0.mk hc0_12
 clear hr0_12 hc0_12
 have HR1_0 := Aside0.mk hr1_0
 have HC1_0 := Aside0.mk hc1_0
 clear hr1_0 hc1_0
 have HR1_1 := Aside0.mk hr1_1
 have HC1_1 := Aside0.mk hc1_1
 clear hr1_1 hc1_1
 have HR1_2 := Aside0.mk hr1_2
 have HC1_2 := Aside0.mk hc1_2
 clear hr1_2 hc1_2
 have HR1_3 := Aside0.mk hr1_3
 have HC1_3 := Aside0.mk hc1_3
 clear hr1_3 hc1_3
 have HR1_4 := Aside0.mk hr1_4
 have HC1_4 := Aside0.mk hc1_4
 clear hr1_4 hc1_4
 have HR1_5 := Aside0.mk hr1_5
 have HC1_5 := Aside0.mk hc1_5
 clear hr1_5 hc1_5
 have HR1_9 := Aside0.mk hr1_9
 have HC1_9 := Aside0.mk hc1_9
 clear hr1_9 hc1_9
 have HR1_10 := Aside0.mk hr1_10
 have HC1_10 := Aside0.mk hc1_10
 clear hr1_10 hc1_10
 have HR1_11 := Aside0.mk hr1_11
 have HC1_11 := Aside0.mk hc1_11
 clear hr1_11 hc1_11
 have HR1_12 := Aside0.mk hr1_12
 have HC1_12 := Aside0.mk hc1_12
 clear hr1_12 hc1_12
 have HB := Aside0.mk (Below.refl w.heap.size w)
 have H : ((laws_eqNetwork.f k l0_0 l0_1 l1_0 l1_1).bind fun t156 => (if t156 = true then ((laws_eqInt64S.f k l0_2 l1_2).bind fun t157 => (if t157 = true then ((laws_eqValveS.f k l0_3 l1_3).bind fun t158 => (if t158 = true then ((laws_eqPumpS.f k l0_4 l1_4).bind fun t159 => (if t159 = true then ((laws_eqSubstationS.f k l0_5 l1_5).bind fun t160 => (if t160 = true then ((laws_eqTank.f a0_6 a0_7 a0_8 a1_6 a1_7 a1_8).bind fun t161 => (if t161 = true then ((laws_eqFuelS.f k l0_9 l1_9).bind fun t162 => (if t162 = true then ((laws_eqRepairS.f k l0_10 l1_10).bind fun t163 => (if t163 = true then ((laws_eqTenantS.f k l0_11 l1_11).bind fun t164 => (if t164 = true then ((laws_eqDutyS.f k l0_12 l1_12).bind fun t165 => (if t165 = true then (some true) else (none))) else (none))) else (none))) else (none))) else (none))) else (none))) else (none))) else (none))) else (none))) else (none))) = some r := h
 clear h
 replace H := Option.bind_eq_some_iff.mp H
 obtain ⟨t156, A30, H⟩ := H
 replace H : (if t156 = true then ((laws_eqInt64S.f k l0_2 l1_2).bind fun t157 => (if t157 = true then ((laws_eqValveS.f k l0_3 l1_3).bind fun t158 => (if t158 = true then ((laws_eqPumpS.f k l0_4 l1_4).bind fun t159 => (if t159 = true then ((laws_eqSubstationS.f k l0_5 l1_5).bind fun t160 => (if t160 = true then ((laws_eqTank.f a0_6 a0_7 a0_8 a1_6 a1_7 a1_8).bind fun t161 => (if t161 = true then ((laws_eqFuelS.f k l0_9 l1_9).bind fun t162 => (if t162 = true then ((laws_eqRepairS.f k l0_10 l1_10).bind fun t163 => (if t163 = true then ((laws_eqTenantS.f k l0_11 l1_11).bind fun t164 => (if t164 = true then ((laws_eqDutyS.f k l0_12 l1_12).bind fun t165 => (if t165 = true then (some true) else (none))) else (none))) else (none))) else (none))) else (none))) else (none))) else (none))) else (none))) else (none))) else (none)) = some r := H
 have A3 := Aside0.mk A30
 clear A30
 by_cases c4 : t156 = true
 ·subst c4
  have H1 : ((laws_eqInt64S.f k l0_2 l1_2).bind fun t157 => (if t157 = true then ((laws_eqValveS.f k l0_3 l1_3).bind fun t158 => (if t158 = true then ((laws_eqPumpS.f k l0_4 l1_4).bind fun t159 => (if t159 = true then ((laws_eqSubstationS.f k l0_5 l1_5).bind fun t160 => (if t160 = true then ((laws_eqTank.f a0_6 a0_7 a0_8 a1_6 a1_7 a1_8).bind fun t161 => (if t161 = true then ((laws_eqFuelS.f k l0_9 l1_9).bind fun t162 => (if t162 = true then ((laws_eqRepairS.f k l0_10 l1_10).bind fun t163 => (if t163 = true then ((laws_eqTenantS.f k l0_11 l1_11).bind fun t164 => (if t164 = true then ((laws_eqDutyS.f k l0_12 l1_12).bind fun t165 => (if t165 = true then (some true) else (none))) else (none))) else (none))) else (none))) else (none))) else (none))) else (none))) else (none))) else (none))) = some r := by rw [if_pos rfl] at H; exact H
  clear H
  have H := H1
  clear H1
  replace H := Option.bind_eq_some_iff.mp H
  obtain ⟨t157, A50, H⟩ := H
  replace H : (if t157 = true then ((laws_eqValveS.f k l0_3 l1_3).bind fun t158 => (if t158 = true then ((laws_eqPumpS.f k l0_4 l1_4).bind fun t159 => (if t159 = true then ((laws_eqSubstationS.f k l0_5 l1_5).bind fun t160 => (if t160 = true then ((laws_eqTank.f a0_6 a0_7 a0_8 a1_6 a1_7 a1_8).bind fun t161 => (if t161 = true then ((laws_eqFuelS.f k l0_9 l1_9).bind fun t162 => (if t162 = true then ((laws_eqRepairS.f k l0_10 l1_10).bind fun t163 => (if t163 = true then ((laws_eqTenantS.f k l0_11 l1_11).bind fun t164 => (if t164 = true then ((laws_eqDutyS.f k l0_12 l1_12).bind fun t165 => (if t165 = true then (some true) else (none))) else (none))) else (none))) else (none))) else (none))) else (none))) else (none))) else (none))) else (none)) = some r := H
  have A5 := Aside0.mk A50
  clear A50
  by_cases c6 : t157 = true
  ·subst c6
   have H1 : ((laws_eqValveS.f k l0_3 l1_3).bind fun t158 => (if t158 = true then ((laws_eqPumpS.f k l0_4 l1_4).bind fun t159 => (if t159 = true then ((laws_eqSubstationS.f k l0_5 l1_5).bind fun t160 => (if t160 = true then ((laws_eqTank.f a0_6 a0_7 a0_8 a1_6 a1_7 a1_8).bind fun t161 => (if t161 = true then ((laws_eqFuelS.f k l0_9 l1_9).bind fun t162 => (if t162 = true then ((laws_eqRepairS.f k l0_10 l1_10).bind fun t163 => (if t163 = true then ((laws_eqTenantS.f k l0_11 l1_11).bind fun t164 => (if t164 = true then ((laws_eqDutyS.f k l0_12 l1_12).bind fun t165 => (if t165 = true then (some true) else (none))) else (none))) else (none))) else (none))) else (none))) else (none))) else (none))) else (none))) = some r := by rw [if_pos rfl] at H; exact H
   clear H
   have H := H1
   clear H1
   replace H := Option.bind_eq_some_iff.mp H
   obtain ⟨t158, A70, H⟩ := H
   replace H : (if t158 = true then ((laws_eqPumpS.f k l0_4 l1_4).bind fun t159 => (if t159 = true then ((laws_eqSubstationS.f k l0_5 l1_5).bind fun t160 => (if t160 = true then ((laws_eqTank.f a0_6 a0_7 a0_8 a1_6 a1_7 a1_8).bind fun t161 => (if t161 = true then ((laws_eqFuelS.f k l0_9 l1_9).bind fun t162 => (if t162 = true then ((laws_eqRepairS.f k l0_10 l1_10).bind fun t163 => (if t163 = true then ((laws_eqTenantS.f k l0_11 l1_11).bind fun t164 => (if t164 = true then ((laws_eqDutyS.f k l0_12 l1_12).bind fun t165 => (if t165 = true then (some true) else (none))) else (none))) else (none))) else (none))) else (none))) else (none))) else (none))) else (none)) = some r := H
   have A7 := Aside0.mk A70
   clear A70
   by_cases c8 : t158 = true
   ·subst c8
    have H1 : ((laws_eqPumpS.f k l0_4 l1_4).bind fun t159 => (if t159 = true then ((laws_eqSubstationS.f k l0_5 l1_5).bind fun t160 => (if t160 = true then ((laws_eqTank.f a0_6 a0_7 a0_8 a1_6 a1_7 a1_8).bind fun t161 => (if t161 = true then ((laws_eqFuelS.f k l0_9 l1_9).bind fun t162 => (if t162 = true then ((laws_eqRepairS.f k l0_10 l1_10).bind fun t163 => (if t163 = true then ((laws_eqTenantS.f k l0_11 l1_11).bind fun t164 => (if t164 = true then ((laws_eqDutyS.f k l0_12 l1_12).bind fun t165 => (if t165 = true then (some true) else (none))) else (none))) else (none))) else (none))) else (none))) else (none))) else (none))) = some r := by rw [if_pos rfl] at H; exact H
    clear H
    have H := H1
    clear H1
    replace H := Option.bind_eq_some_iff.mp H
    obtain ⟨t159, A90, H⟩ := H
    replace H : (if t159 = true then ((laws_eqSubstationS.f k l0_5 l1_5).bind fun t160 => (if t160 = true then ((laws_eqTank.f a0_6 a0_7 a0_8 a1_6 a1_7 a1_8).bind fun t161 => (if t161 = true then ((laws_eqFuelS.f k l0_9 l1_9).bind fun t162 => (if t162 = true then ((laws_eqRepairS.f k l0_10 l1_10).bind fun t163 => (if t163 = true then ((laws_eqTenantS.f k l0_11 l1_11).bind fun t164 => (if t164 = true then ((laws_eqDutyS.f k l0_12 l1_12).bind fun t165 => (if t165 = true then (some true) else (none))) else (none))) else (none))) else (none))) else (none))) else (none))) else (none)) = some r := H
    have A9 := Aside0.mk A90
    clear A90
    by_cases c10 : t159 = true
    ·subst c10
     have H1 : ((laws_eqSubstationS.f k l0_5 l1_5).bind fun t160 => (if t160 = true then ((laws_eqTank.f a0_6 a0_7 a0_8 a1_6 a1_7 a1_8).bind fun t161 => (if t161 = true then ((laws_eqFuelS.f k l0_9 l1_9).bind fun t162 => (if t162 = true then ((laws_eqRepairS.f k l0_10 l1_10).bind fun t163 => (if t163 = true then ((laws_eqTenantS.f k l0_11 l1_11).bind fun t164 => (if t164 = true then ((laws_eqDutyS.f k l0_12 l1_12).bind fun t165 => (if t165 = true then (some true) else (none))) else (none))) else (none))) else (none))) else (none))) else (none))) = some r := by rw [if_pos rfl] at H; exact H
     clear H
     have H := H1
     clear H1
     replace H := Option.bind_eq_some_iff.mp H
     obtain ⟨t160, A110, H⟩ := H
     replace H : (if t160 = true then ((laws_eqTank.f a0_6 a0_7 a0_8 a1_6 a1_7 a1_8).bind fun t161 => (if t161 = true then ((laws_eqFuelS.f k l0_9 l1_9).bind fun t162 => (if t162 = true then ((laws_eqRepairS.f k l0_10 l1_10).bind fun t163 => (if t163 = true then ((laws_eqTenantS.f k l0_11 l1_11).bind fun t164 => (if t164 = true then ((laws_eqDutyS.f k l0_12 l1_12).bind fun t165 => (if t165 = true then (some true) else (none))) else (none))) else (none))) else (none))) else (none))) else (none)) = some r := H
     have A11 := Aside0.mk A110
     clear A110
     by_cases c12 : t160 = true
     ·subst c12
      have H1 : ((laws_eqTank.f a0_6 a0_7 a0_8 a1_6 a1_7 a1_8).bind fun t161 => (if t161 = true then ((laws_eqFuelS.f k l0_9 l1_9).bind fun t162 => (if t162 = true then ((laws_eqRepairS.f k l0_10 l1_10).bind fun t163 => (if t163 = true then ((laws_eqTenantS.f k l0_11 l1_11).bind fun t164 => (if t164 = true then ((laws_eqDutyS.f k l0_12 l1_12).bind fun t165 => (if t165 = true then (some true) else (none))) else (none))) else (none))) else (none))) else (none))) = some r := by rw [if_pos rfl] at H; exact H
      clear H
      have H := H1
      clear H1
      replace H := Option.bind_eq_some_iff.mp H
      obtain ⟨t161, A130, H⟩ := H
      replace H : (if t161 = true then ((laws_eqFuelS.f k l0_9 l1_9).bind fun t162 => (if t162 = true then ((laws_eqRepairS.f k l0_10 l1_10).bind fun t163 => (if t163 = true then ((laws_eqTenantS.f k l0_11 l1_11).bind fun t164 => (if t164 = true then ((laws_eqDutyS.f k l0_12 l1_12).bind fun t165 => (if t165 = true then (some true) else (none))) else (none))) else (none))) else (none))) else (none)) = some r := H
      have A13 := Aside0.mk A130
      clear A130
      by_cases c14 : t161 = true
      ·subst c14
       have H1 : ((laws_eqFuelS.f k l0_9 l1_9).bind fun t162 => (if t162 = true then ((laws_eqRepairS.f k l0_10 l1_10).bind fun t163 => (if t163 = true then ((laws_eqTenantS.f k l0_11 l1_11).bind fun t164 => (if t164 = true then ((laws_eqDutyS.f k l0_12 l1_12).bind fun t165 => (if t165 = true then (some true) else (none))) else (none))) else (none))) else (none))) = some r := by rw [if_pos rfl] at H; exact H
       clear H
       have H := H1
       clear H1
       replace H := Option.bind_eq_some_iff.mp H
       obtain ⟨t162, A150, H⟩ := H
       replace H : (if t162 = true then ((laws_eqRepairS.f k l0_10 l1_10).bind fun t163 => (if t163 = true then ((laws_eqTenantS.f k l0_11 l1_11).bind fun t164 => (if t164 = true then ((laws_eqDutyS.f k l0_12 l1_12).bind fun t165 => (if t165 = true then (some true) else (none))) else (none))) else (none))) else (none)) = some r := H
       have A15 := Aside0.mk A150
       clear A150
       by_cases c16 : t162 = true
       ·subst c16
        have H1 : ((laws_eqRepairS.f k l0_10 l1_10).bind fun t163 => (if t163 = true then ((laws_eqTenantS.f k l0_11 l1_11).bind fun t164 => (if t164 = true then ((laws_eqDutyS.f k l0_12 l1_12).bind fun t165 => (if t165 = true then (some true) else (none))) else (none))) else (none))) = some r := by rw [if_pos rfl] at H; exact H
        clear H
        have H := H1
        clear H1
        replace H := Option.bind_eq_some_iff.mp H
        obtain ⟨t163, A170, H⟩ := H
        replace H : (if t163 = true then ((laws_eqTenantS.f k l0_11 l1_11).bind fun t164 => (if t164 = true then ((laws_eqDutyS.f k l0_12 l1_12).bind fun t165 => (if t165 = true then (some true) else (none))) else (none))) else (none)) = some r := H
        have A17 := Aside0.mk A170
        clear A170
        by_cases c18 : t163 = true
        ·subst c18
         have H1 : ((laws_eqTenantS.f k l0_11 l1_11).bind fun t164 => (if t164 = true then ((laws_eqDutyS.f k l0_12 l1_12).bind fun t165 => (if t165 = true then (some true) else (none))) else (none))) = some r := by rw [if_pos rfl] at H; exact H
         clear H
         have H := H1
         clear H1
         replace H := Option.bind_eq_some_iff.mp H
         obtain ⟨t164, A190, H⟩ := H
         replace H : (if t164 = true then ((laws_eqDutyS.f k l0_12 l1_12).bind fun t165 => (if t165 = true then (some true) else (none))) else (none)) = some r := H
         have A19 := Aside0.mk A190
         clear A190
         by_cases c20 : t164 = true
         ·subst c20
          have H1 : ((laws_eqDutyS.f k l0_12 l1_12).bind fun t165 => (if t165 = true then (some true) else (none))) = some r := by rw [if_pos rfl] at H; exact H
          clear H
          have H := H1
          clear H1
          replace H := Option.bind_eq_some_iff.mp H
          obtain ⟨t165, A210, H⟩ := H
          replace H : (if t165 = true then (some true) else (none)) = some r := H
          have A21 := Aside0.mk A210
          clear A210
          by_cases c22 : t165 = true
          ·subst c22
           have H1 : (some true) = some r := by rw [if_pos rfl] at H; exact H
           clear H
           have H := H1
           clear H1
           obtain rfl := Option.some.inj H
           go_enter Try.func6, Try.ntmps6
           go_wp2_with (first | ((with_reducible refine gate_dst (N := 2) rfl ?_); refine boxZ 2 #[.slice A0_0 l0_0.length c0_0, .slice A0_1 l0_1.length c0_1, .slice A0_2 l0_2.length c0_2, .slice A0_3 l0_3.length c0_3, .slice A0_4 l0_4.length c0_4, .slice A0_5 l0_5.length c0_5, .int .i64 a0_6, .int .i64 a0_7, .int .i64 a0_8, .slice A0_9 l0_9.length c0_9, .slice A0_10 l0_10.length c0_10, .slice A0_11 l0_11.length c0_11, .slice A0_12 l0_12.length c0_12] 36 rfl rfl ?_; intro gb154 hg w23 hbox hb; have n0_ := Aside0.mk (below_step bZ hb); have n1_ := Aside0.mk (hbox); have n2_ := Aside0.mk ((by rw [hg]; exact bsZ : w.heap.size ≤ gb154)); have n3_ := Aside0.mk ((by rw [hg]; exact bsZ : w.heap.size ≤ gb154)); clear HB; have HB := n0_; have BK154 := n1_; have GW154 := n2_; have GE154 := n3_; clear n0_ n1_ n2_ n3_; clear hb hbox hg) | ((with_reducible refine gate_dst (N := 3) rfl ?_); refine boxZ 3 #[.slice A1_0 l1_0.length c1_0, .slice A1_1 l1_1.length c1_1, .slice A1_2 l1_2.length c1_2, .slice A1_3 l1_3.length c1_3, .slice A1_4 l1_4.length c1_4, .slice A1_5 l1_5.length c1_5, .int .i64 a1_6, .int .i64 a1_7, .int .i64 a1_8, .slice A1_9 l1_9.length c1_9, .slice A1_10 l1_10.length c1_10, .slice A1_11 l1_11.length c1_11, .slice A1_12 l1_12.length c1_12] 36 rfl rfl ?_; intro gb155 hg w24 hbox hb; have n0_ := Aside0.mk (blk_below (g := gb154) (o := .cells #[.slice A0_0 l0_0.length c0_0, .slice A0_1 l0_1.length c0_1, .slice A0_2 l0_2.length c0_2, .slice A0_3 l0_3.length c0_3, .slice A0_4 l0_4.length c0_4, .slice A0_5 l0_5.length c0_5, .int .i64 a0_6, .int .i64 a0_7, .int .i64 a0_8, .slice A0_9 l0_9.length c0_9, .slice A0_10 l0_10.length c0_10, .slice A0_11 l0_11.length c0_11, .slice A0_12 l0_12.length c0_12] 36 (0, 0)) (kZ BK154.out) hb); have n1_ := Aside0.mk (below_step bZ hb); have n2_ := Aside0.mk (hbox); have n3_ := Aside0.mk ((by rw [hg]; exact bsZ : w.heap.size ≤ gb155)); have n4_ := Aside0.mk ((by rw [hg]; exact bsZ : w.heap.size ≤ gb155)); have n5_ := Aside0.mk ((by rw [hg]; exact Nat.ne_of_lt (blk_lt (g := gb154) (o := .cells #[.slice A0_0 l0_0.length c0_0, .slice A0_1 l0_1.length c0_1, .slice A0_2 l0_2.length c0_2, .slice A0_3 l0_3.length c0_3, .slice A0_4 l0_4.length c0_4, .slice A0_5 l0_5.length c0_5, .int .i64 a0_6, .int .i64 a0_7, .int .i64 a0_8, .slice A0_9 l0_9.length c0_9, .slice A0_10 l0_10.length c0_10, .slice A0_11 l0_11.length c0_11, .slice A0_12 l0_12.length c0_12] 36 (0, 0)) (kZ BK154.out)) : gb154 ≠ gb155)); have n6_ := Aside0.mk ((by rw [hg]; exact Nat.ne_of_gt (blk_lt (g := gb154) (o := .cells #[.slice A0_0 l0_0.length c0_0, .slice A0_1 l0_1.length c0_1, .slice A0_2 l0_2.length c0_2, .slice A0_3 l0_3.length c0_3, .slice A0_4 l0_4.length c0_4, .slice A0_5 l0_5.length c0_5, .int .i64 a0_6, .int .i64 a0_7, .int .i64 a0_8, .slice A0_9 l0_9.length c0_9, .slice A0_10 l0_10.length c0_10, .slice A0_11 l0_11.length c0_11, .slice A0_12 l0_12.length c0_12] 36 (0, 0)) (kZ BK154.out)) : gb155 ≠ gb154)); clear BK154; clear HB; have BK154 := n0_; have HB := n1_; have BK155 := n2_; have GW155 := n3_; have GE155 := n4_; have NB154_155 := n5_; have NB155_154 := n6_; clear n0_ n1_ n2_ n3_ n4_ n5_ n6_; clear hb hbox hg; have hnb25 := NB154_155.out; have hnc25 := NB155_154.out; have hcz26_0 := bc0 BK154.out; have hcz26_1 := bc1 BK154.out; have hcz26_2 := bc2 BK154.out; have hcz26_3 := bc3 BK154.out; have hcz26_4 := bc4 BK154.out; have hcz26_5 := bc5 BK154.out; have hcz26_6 := bc6 BK154.out; have hcz26_7 := bc7 BK154.out; have hcz26_8 := bc8 BK154.out; have hcz26_9 := bc9 BK154.out; have hcz26_10 : w24.cell? ⟨gb154, 10, none⟩ = some (.slice A0_10 l0_10.length c0_10) := (blk_cell BK154.out 10).trans rfl; have hcz26_11 : w24.cell? ⟨gb154, 11, none⟩ = some (.slice A0_11 l0_11.length c0_11) := (blk_cell BK154.out 11).trans rfl; have hcz26_12 : w24.cell? ⟨gb154, 12, none⟩ = some (.slice A0_12 l0_12.length c0_12) := (blk_cell BK154.out 12).trans rfl; have hfz26_0 := blk_frozen BK154.out 0; have hfz26_1 := blk_frozen BK154.out 1; have hfz26_2 := blk_frozen BK154.out 2; have hfz26_3 := blk_frozen BK154.out 3; have hfz26_4 := blk_frozen BK154.out 4; have hfz26_5 := blk_frozen BK154.out 5; have hfz26_6 := blk_frozen BK154.out 6; have hfz26_7 := blk_frozen BK154.out 7; have hfz26_8 := blk_frozen BK154.out 8; have hfz26_9 := blk_frozen BK154.out 9; have hfz26_10 := blk_frozen BK154.out 10; have hfz26_11 := blk_frozen BK154.out 11; have hfz26_12 := blk_frozen BK154.out 12; have hcz27_0 := bc0 BK155.out; have hcz27_1 := bc1 BK155.out; have hcz27_2 := bc2 BK155.out; have hcz27_3 := bc3 BK155.out; have hcz27_4 := bc4 BK155.out; have hcz27_5 := bc5 BK155.out; have hcz27_6 := bc6 BK155.out; have hcz27_7 := bc7 BK155.out; have hcz27_8 := bc8 BK155.out; have hcz27_9 := bc9 BK155.out; have hcz27_10 : w24.cell? ⟨gb155, 10, none⟩ = some (.slice A1_10 l1_10.length c1_10) := (blk_cell BK155.out 10).trans rfl; have hcz27_11 : w24.cell? ⟨gb155, 11, none⟩ = some (.slice A1_11 l1_11.length c1_11) := (blk_cell BK155.out 11).trans rfl; have hcz27_12 : w24.cell? ⟨gb155, 12, none⟩ = some (.slice A1_12 l1_12.length c1_12) := (blk_cell BK155.out 12).trans rfl; have hfz27_0 := blk_frozen BK155.out 0; have hfz27_1 := blk_frozen BK155.out 1; have hfz27_2 := blk_frozen BK155.out 2; have hfz27_3 := blk_frozen BK155.out 3; have hfz27_4 := blk_frozen BK155.out 4; have hfz27_5 := blk_frozen BK155.out 5; have hfz27_6 := blk_frozen BK155.out 6; have hfz27_7 := blk_frozen BK155.out 7; have hfz27_8 := blk_frozen BK155.out 8; have hfz27_9 := blk_frozen BK155.out 9; have hfz27_10 := blk_frozen BK155.out 10; have hfz27_11 := blk_frozen BK155.out 11; have hfz27_12 := blk_frozen BK155.out 12) | ((with_reducible refine gate_callee (f := 10) rfl ?_); refine goesL_ (some 9) rfl rfl Try.func10 (by kernel_rfl) rfl #[.agg #[.slice A0_0 l0_0.length c0_0, .slice A0_1 l0_1.length c0_1], .agg #[.slice A1_0 l1_0.length c1_0, .slice A1_1 l1_1.length c1_1]] rfl gZ ?_; (with_reducible refine (laws_eqNetwork.calls k _ _ l0_0 _ _ l0_1 _ _ l1_0 _ _ l1_1 true _ ?side1 ?side2 ?side3 ?side4 ?side5 ?side6 ?side7 ?side8 A3.out).mono ?_); (case side1 => repeat (first | exact (Kd.C_below HR0_0.out HB.out) | (with_reducible refine Kd.C_alloc ?_ _) | (with_reducible refine Kd.C_drewN ?_ _) | (with_reducible refine Kd.C_drew ?_))); (case side2 => exact HC0_0.out); (case side3 => repeat (first | exact (Kd.C_below HR0_1.out HB.out) | (with_reducible refine Kd.C_alloc ?_ _) | (with_reducible refine Kd.C_drewN ?_ _) | (with_reducible refine Kd.C_drew ?_))); (case side4 => exact HC0_1.out); (case side5 => repeat (first | exact (Kd.C_below HR1_0.out HB.out) | (with_reducible refine Kd.C_alloc ?_ _) | (with_reducible refine Kd.C_drewN ?_ _) | (with_reducible refine Kd.C_drew ?_))); (case side6 => exact HC1_0.out); (case side7 => repeat (first | exact (Kd.C_below HR1_1.out HB.out) | (with_reducible refine Kd.C_alloc ?_ _) | (with_reducible refine Kd.C_drewN ?_ _) | (with_reducible refine Kd.C_drew ?_))); (case side8 => exact HC1_1.out); rintro e w28 ⟨rfl, hb⟩; refine ⟨_, rfl, ?_⟩; have n0_ := Aside0.mk (blk_below (g := gb154) (o := .cells #[.slice A0_0 l0_0.length c0_0, .slice A0_1 l0_1.length c0_1, .slice A0_2 l0_2.length c0_2, .slice A0_3 l0_3.length c0_3, .slice A0_4 l0_4.length c0_4, .slice A0_5 l0_5.length c0_5, .int .i64 a0_6, .int .i64 a0_7, .int .i64 a0_8, .slice A0_9 l0_9.length c0_9, .slice A0_10 l0_10.length c0_10, .slice A0_11 l0_11.length c0_11, .slice A0_12 l0_12.length c0_12] 36 (0, 0)) (kZ BK154.out) hb); have n1_ := Aside0.mk (blk_below (g := gb155) (o := .cells #[.slice A1_0 l1_0.length c1_0, .slice A1_1 l1_1.length c1_1, .slice A1_2 l1_2.length c1_2, .slice A1_3 l1_3.length c1_3, .slice A1_4 l1_4.length c1_4, .slice A1_5 l1_5.length c1_5, .int .i64 a1_6, .int .i64 a1_7, .int .i64 a1_8, .slice A1_9 l1_9.length c1_9, .slice A1_10 l1_10.length c1_10, .slice A1_11 l1_11.length c1_11, .slice A1_12 l1_12.length c1_12] 36 (0, 0)) (kZ BK155.out) hb); have n2_ := Aside0.mk (below_step bZ hb); clear BK154; clear BK155; clear HB; have BK154 := n0_; have BK155 := n1_; have HB := n2_; clear n0_ n1_ n2_; (try clear hb); (try clear hb2); (try clear hk); (try clear hi); have hcz29_0 := bc0 BK154.out; have hcz29_1 := bc1 BK154.out; have hcz29_2 := bc2 BK154.out; have hcz29_3 := bc3 BK154.out; have hcz29_4 := bc4 BK154.out; have hcz29_5 := bc5 BK154.out; have hcz29_6 := bc6 BK154.out; have hcz29_7 := bc7 BK154.out; have hcz29_8 := bc8 BK154.out; have hcz29_9 := bc9 BK154.out; have hcz29_10 : w28.cell? ⟨gb154, 10, none⟩ = some (.slice A0_10 l0_10.length c0_10) := (blk_cell BK154.out 10).trans rfl; have hcz29_11 : w28.cell? ⟨gb154, 11, none⟩ = some (.slice A0_11 l0_11.length c0_11) := (blk_cell BK154.out 11).trans rfl; have hcz29_12 : w28.cell? ⟨gb154, 12, none⟩ = some (.slice A0_12 l0_12.length c0_12) := (blk_cell BK154.out 12).trans rfl; have hfz29_0 := blk_frozen BK154.out 0; have hfz29_1 := blk_frozen BK154.out 1; have hfz29_2 := blk_frozen BK154.out 2; have hfz29_3 := blk_frozen BK154.out 3; have hfz29_4 := blk_frozen BK154.out 4; have hfz29_5 := blk_frozen BK154.out 5; have hfz29_6 := blk_frozen BK154.out 6; have hfz29_7 := blk_frozen BK154.out 7; have hfz29_8 := blk_frozen BK154.out 8; have hfz29_9 := blk_frozen BK154.out 9; have hfz29_10 := blk_frozen BK154.out 10; have hfz29_11 := blk_frozen BK154.out 11; have hfz29_12 := blk_frozen BK154.out 12; have hcz30_0 := bc0 BK155.out; have hcz30_1 := bc1 BK155.out; have hcz30_2 := bc2 BK155.out; have hcz30_3 := bc3 BK155.out; have hcz30_4 := bc4 BK155.out; have hcz30_5 := bc5 BK155.out; have hcz30_6 := bc6 BK155.out; have hcz30_7 := bc7 BK155.out; have hcz30_8 := bc8 BK155.out; have hcz30_9 := bc9 BK155.out; have hcz30_10 : w28.cell? ⟨gb155, 10, none⟩ = some (.slice A1_10 l1_10.length c1_10) := (blk_cell BK155.out 10).trans rfl; have hcz30_11 : w28.cell? ⟨gb155, 11, none⟩ = some (.slice A1_11 l1_11.length c1_11) := (blk_cell BK155.out 11).trans rfl; have hcz30_12 : w28.cell? ⟨gb155, 12, none⟩ = some (.slice A1_12 l1_12.length c1_12) := (blk_cell BK155.out 12).trans rfl; have hfz30_0 := blk_frozen BK155.out 0; have hfz30_1 := blk_frozen BK155.out 1; have hfz30_2 := blk_frozen BK155.out 2; have hfz30_3 := blk_frozen BK155.out 3; have hfz30_4 := blk_frozen BK155.out 4; have hfz30_5 := blk_frozen BK155.out 5; have hfz30_6 := blk_frozen BK155.out 6; have hfz30_7 := blk_frozen BK155.out 7; have hfz30_8 := blk_frozen BK155.out 8; have hfz30_9 := blk_frozen BK155.out 9; have hfz30_10 := blk_frozen BK155.out 10; have hfz30_11 := blk_frozen BK155.out 11; have hfz30_12 := blk_frozen BK155.out 12) | ((with_reducible refine gate_callee (f := 11) rfl ?_); refine goesL_ (some 15) rfl rfl Try.func11 (by kernel_rfl) rfl #[.slice A0_2 l0_2.length c0_2, .slice A1_2 l1_2.length c1_2] rfl gZ ?_; (with_reducible refine (laws_eqInt64S.calls k _ _ l0_2 _ _ l1_2 true _ ?side1 ?side2 ?side3 ?side4 A5.out).mono ?_); (case side1 => repeat (first | exact (Kd.C_below HR0_2.out HB.out) | (with_reducible refine Kd.C_alloc ?_ _) | (with_reducible refine Kd.C_drewN ?_ _) | (with_reducible refine Kd.C_drew ?_))); (case side2 => exact HC0_2.out); (case side3 => repeat (first | exact (Kd.C_below HR1_2.out HB.out) | (with_reducible refine Kd.C_alloc ?_ _) | (with_reducible refine Kd.C_drewN ?_ _) | (with_reducible refine Kd.C_drew ?_))); (case side4 => exact HC1_2.out); rintro e w' ⟨rfl, ⟨nd, rfl⟩⟩; refine ⟨_, rfl, ?_⟩) | ((with_reducible refine gate_callee (f := 12) rfl ?_); refine goesL_ (some 21) rfl rfl Try.func12 (by kernel_rfl) rfl #[.slice A0_3 l0_3.length c0_3, .slice A1_3 l1_3.length c1_3] rfl gZ ?_; (with_reducible refine (laws_eqValveS.calls k _ _ l0_3 _ _ l1_3 true _ ?side1 ?side2 ?side3 ?side4 A7.out).mono ?_); (case side1 => repeat (first | exact (Kd.C_below HR0_3.out bZ) | (with_reducible refine Kd.C_alloc ?_ _) | (with_reducible refine Kd.C_drewN ?_ _) | (with_reducible refine Kd.C_drew ?_))); (case side2 => exact HC0_3.out); (case side3 => repeat (first | exact (Kd.C_below HR1_3.out bZ) | (with_reducible refine Kd.C_alloc ?_ _) | (with_reducible refine Kd.C_drewN ?_ _) | (with_reducible refine Kd.C_drew ?_))); (case side4 => exact HC1_3.out); rintro e w31 ⟨rfl, hb⟩; refine ⟨_, rfl, ?_⟩; have n0_ := Aside0.mk (blk_below (g := gb154) (o := .cells #[.slice A0_0 l0_0.length c0_0, .slice A0_1 l0_1.length c0_1, .slice A0_2 l0_2.length c0_2, .slice A0_3 l0_3.length c0_3, .slice A0_4 l0_4.length c0_4, .slice A0_5 l0_5.length c0_5, .int .i64 a0_6, .int .i64 a0_7, .int .i64 a0_8, .slice A0_9 l0_9.length c0_9, .slice A0_10 l0_10.length c0_10, .slice A0_11 l0_11.length c0_11, .slice A0_12 l0_12.length c0_12] 36 (0, 0)) (kZ BK154.out) hb); have n1_ := Aside0.mk (blk_below (g := gb155) (o := .cells #[.slice A1_0 l1_0.length c1_0, .slice A1_1 l1_1.length c1_1, .slice A1_2 l1_2.length c1_2, .slice A1_3 l1_3.length c1_3, .slice A1_4 l1_4.length c1_4, .slice A1_5 l1_5.length c1_5, .int .i64 a1_6, .int .i64 a1_7, .int .i64 a1_8, .slice A1_9 l1_9.length c1_9, .slice A1_10 l1_10.length c1_10, .slice A1_11 l1_11.length c1_11, .slice A1_12 l1_12.length c1_12] 36 (0, 0)) (kZ BK155.out) hb); have n2_ := Aside0.mk (below_step bZ hb); clear BK154; clear BK155; clear HB; have BK154 := n0_; have BK155 := n1_; have HB := n2_; clear n0_ n1_ n2_; (try clear hb); (try clear hb2); (try clear hk); (try clear hi); have hcz32_0 := bc0 BK154.out; have hcz32_1 := bc1 BK154.out; have hcz32_2 := bc2 BK154.out; have hcz32_3 := bc3 BK154.out; have hcz32_4 := bc4 BK154.out; have hcz32_5 := bc5 BK154.out; have hcz32_6 := bc6 BK154.out; have hcz32_7 := bc7 BK154.out; have hcz32_8 := bc8 BK154.out; have hcz32_9 := bc9 BK154.out; have hcz32_10 : w31.cell? ⟨gb154, 10, none⟩ = some (.slice A0_10 l0_10.length c0_10) := (blk_cell BK154.out 10).trans rfl; have hcz32_11 : w31.cell? ⟨gb154, 11, none⟩ = some (.slice A0_11 l0_11.length c0_11) := (blk_cell BK154.out 11).trans rfl; have hcz32_12 : w31.cell? ⟨gb154, 12, none⟩ = some (.slice A0_12 l0_12.length c0_12) := (blk_cell BK154.out 12).trans rfl; have hfz32_0 := blk_frozen BK154.out 0; have hfz32_1 := blk_frozen BK154.out 1; have hfz32_2 := blk_frozen BK154.out 2; have hfz32_3 := blk_frozen BK154.out 3; have hfz32_4 := blk_frozen BK154.out 4; have hfz32_5 := blk_frozen BK154.out 5; have hfz32_6 := blk_frozen BK154.out 6; have hfz32_7 := blk_frozen BK154.out 7; have hfz32_8 := blk_frozen BK154.out 8; have hfz32_9 := blk_frozen BK154.out 9; have hfz32_10 := blk_frozen BK154.out 10; have hfz32_11 := blk_frozen BK154.out 11; have hfz32_12 := blk_frozen BK154.out 12; have hcz33_0 := bc0 BK155.out; have hcz33_1 := bc1 BK155.out; have hcz33_2 := bc2 BK155.out; have hcz33_3 := bc3 BK155.out; have hcz33_4 := bc4 BK155.out; have hcz33_5 := bc5 BK155.out; have hcz33_6 := bc6 BK155.out; have hcz33_7 := bc7 BK155.out; have hcz33_8 := bc8 BK155.out; have hcz33_9 := bc9 BK155.out; have hcz33_10 : w31.cell? ⟨gb155, 10, none⟩ = some (.slice A1_10 l1_10.length c1_10) := (blk_cell BK155.out 10).trans rfl; have hcz33_11 : w31.cell? ⟨gb155, 11, none⟩ = some (.slice A1_11 l1_11.length c1_11) := (blk_cell BK155.out 11).trans rfl; have hcz33_12 : w31.cell? ⟨gb155, 12, none⟩ = some (.slice A1_12 l1_12.length c1_12) := (blk_cell BK155.out 12).trans rfl; have hfz33_0 := blk_frozen BK155.out 0; have hfz33_1 := blk_frozen BK155.out 1; have hfz33_2 := blk_frozen BK155.out 2; have hfz33_3 := blk_frozen BK155.out 3; have hfz33_4 := blk_frozen BK155.out 4; have hfz33_5 := blk_frozen BK155.out 5; have hfz33_6 := blk_frozen BK155.out 6; have hfz33_7 := blk_frozen BK155.out 7; have hfz33_8 := blk_frozen BK155.out 8; have hfz33_9 := blk_frozen BK155.out 9; have hfz33_10 := blk_frozen BK155.out 10; have hfz33_11 := blk_frozen BK155.out 11; have hfz33_12 := blk_frozen BK155.out 12) | ((with_reducible refine gate_callee (f := 13) rfl ?_); refine goesL_ (some 27) rfl rfl Try.func13 (by kernel_rfl) rfl #[.slice A0_4 l0_4.length c0_4, .slice A1_4 l1_4.length c1_4] rfl gZ ?_; (with_reducible refine (laws_eqPumpS.calls k _ _ l0_4 _ _ l1_4 true _ ?side1 ?side2 ?side3 ?side4 A9.out).mono ?_); (case side1 => repeat (first | exact (Kd.C_below HR0_4.out HB.out) | (with_reducible refine Kd.C_alloc ?_ _) | (with_reducible refine Kd.C_drewN ?_ _) | (with_reducible refine Kd.C_drew ?_))); (case side2 => exact HC0_4.out); (case side3 => repeat (first | exact (Kd.C_below HR1_4.out HB.out) | (with_reducible refine Kd.C_alloc ?_ _) | (with_reducible refine Kd.C_drewN ?_ _) | (with_reducible refine Kd.C_drew ?_))); (case side4 => exact HC1_4.out); rintro e w34 ⟨rfl, hb⟩; refine ⟨_, rfl, ?_⟩; have n0_ := Aside0.mk (blk_below (g := gb154) (o := .cells #[.slice A0_0 l0_0.length c0_0, .slice A0_1 l0_1.length c0_1, .slice A0_2 l0_2.length c0_2, .slice A0_3 l0_3.length c0_3, .slice A0_4 l0_4.length c0_4, .slice A0_5 l0_5.length c0_5, .int .i64 a0_6, .int .i64 a0_7, .int .i64 a0_8, .slice A0_9 l0_9.length c0_9, .slice A0_10 l0_10.length c0_10, .slice A0_11 l0_11.length c0_11, .slice A0_12 l0_12.length c0_12] 36 (0, 0)) (kZ BK154.out) hb); have n1_ := Aside0.mk (blk_below (g := gb155) (o := .cells #[.slice A1_0 l1_0.length c1_0, .slice A1_1 l1_1.length c1_1, .slice A1_2 l1_2.length c1_2, .slice A1_3 l1_3.length c1_3, .slice A1_4 l1_4.length c1_4, .slice A1_5 l1_5.length c1_5, .int .i64 a1_6, .int .i64 a1_7, .int .i64 a1_8, .slice A1_9 l1_9.length c1_9, .slice A1_10 l1_10.length c1_10, .slice A1_11 l1_11.length c1_11, .slice A1_12 l1_12.length c1_12] 36 (0, 0)) (kZ BK155.out) hb); have n2_ := Aside0.mk (below_step bZ hb); clear BK154; clear BK155; clear HB; have BK154 := n0_; have BK155 := n1_; have HB := n2_; clear n0_ n1_ n2_; (try clear hb); (try clear hb2); (try clear hk); (try clear hi); have hcz35_0 := bc0 BK154.out; have hcz35_1 := bc1 BK154.out; have hcz35_2 := bc2 BK154.out; have hcz35_3 := bc3 BK154.out; have hcz35_4 := bc4 BK154.out; have hcz35_5 := bc5 BK154.out; have hcz35_6 := bc6 BK154.out; have hcz35_7 := bc7 BK154.out; have hcz35_8 := bc8 BK154.out; have hcz35_9 := bc9 BK154.out; have hcz35_10 : w34.cell? ⟨gb154, 10, none⟩ = some (.slice A0_10 l0_10.length c0_10) := (blk_cell BK154.out 10).trans rfl; have hcz35_11 : w34.cell? ⟨gb154, 11, none⟩ = some (.slice A0_11 l0_11.length c0_11) := (blk_cell BK154.out 11).trans rfl; have hcz35_12 : w34.cell? ⟨gb154, 12, none⟩ = some (.slice A0_12 l0_12.length c0_12) := (blk_cell BK154.out 12).trans rfl; have hfz35_0 := blk_frozen BK154.out 0; have hfz35_1 := blk_frozen BK154.out 1; have hfz35_2 := blk_frozen BK154.out 2; have hfz35_3 := blk_frozen BK154.out 3; have hfz35_4 := blk_frozen BK154.out 4; have hfz35_5 := blk_frozen BK154.out 5; have hfz35_6 := blk_frozen BK154.out 6; have hfz35_7 := blk_frozen BK154.out 7; have hfz35_8 := blk_frozen BK154.out 8; have hfz35_9 := blk_frozen BK154.out 9; have hfz35_10 := blk_frozen BK154.out 10; have hfz35_11 := blk_frozen BK154.out 11; have hfz35_12 := blk_frozen BK154.out 12; have hcz36_0 := bc0 BK155.out; have hcz36_1 := bc1 BK155.out; have hcz36_2 := bc2 BK155.out; have hcz36_3 := bc3 BK155.out; have hcz36_4 := bc4 BK155.out; have hcz36_5 := bc5 BK155.out; have hcz36_6 := bc6 BK155.out; have hcz36_7 := bc7 BK155.out; have hcz36_8 := bc8 BK155.out; have hcz36_9 := bc9 BK155.out; have hcz36_10 : w34.cell? ⟨gb155, 10, none⟩ = some (.slice A1_10 l1_10.length c1_10) := (blk_cell BK155.out 10).trans rfl; have hcz36_11 : w34.cell? ⟨gb155, 11, none⟩ = some (.slice A1_11 l1_11.length c1_11) := (blk_cell BK155.out 11).trans rfl; have hcz36_12 : w34.cell? ⟨gb155, 12, none⟩ = some (.slice A1_12 l1_12.length c1_12) := (blk_cell BK155.out 12).trans rfl; have hfz36_0 := blk_frozen BK155.out 0; have hfz36_1 := blk_frozen BK155.out 1; have hfz36_2 := blk_frozen BK155.out 2; have hfz36_3 := blk_frozen BK155.out 3; have hfz36_4 := blk_frozen BK155.out 4; have hfz36_5 := blk_frozen BK155.out 5; have hfz36_6 := blk_frozen BK155.out 6; have hfz36_7 := blk_frozen BK155.out 7; have hfz36_8 := blk_frozen BK155.out 8; have hfz36_9 := blk_frozen BK155.out 9; have hfz36_10 := blk_frozen BK155.out 10; have hfz36_11 := blk_frozen BK155.out 11; have hfz36_12 := blk_frozen BK155.out 12) | ((with_reducible refine gate_callee (f := 14) rfl ?_); refine goesL_ (some 33) rfl rfl Try.func14 (by kernel_rfl) rfl #[.slice A0_5 l0_5.length c0_5, .slice A1_5 l1_5.length c1_5] rfl gZ ?_; (with_reducible refine (laws_eqSubstationS.calls k _ _ l0_5 _ _ l1_5 true _ ?side1 ?side2 ?side3 ?side4 A11.out).mono ?_); (case side1 => repeat (first | exact (Kd.C_below HR0_5.out HB.out) | (with_reducible refine Kd.C_alloc ?_ _) | (with_reducible refine Kd.C_drewN ?_ _) | (with_reducible refine Kd.C_drew ?_))); (case side2 => exact HC0_5.out); (case side3 => repeat (first | exact (Kd.C_below HR1_5.out HB.out) | (with_reducible refine Kd.C_alloc ?_ _) | (with_reducible refine Kd.C_drewN ?_ _) | (with_reducible refine Kd.C_drew ?_))); (case side4 => exact HC1_5.out); rintro e w37 ⟨rfl, hb⟩; refine ⟨_, rfl, ?_⟩; have n0_ := Aside0.mk (blk_below (g := gb154) (o := .cells #[.slice A0_0 l0_0.length c0_0, .slice A0_1 l0_1.length c0_1, .slice A0_2 l0_2.length c0_2, .slice A0_3 l0_3.length c0_3, .slice A0_4 l0_4.length c0_4, .slice A0_5 l0_5.length c0_5, .int .i64 a0_6, .int .i64 a0_7, .int .i64 a0_8, .slice A0_9 l0_9.length c0_9, .slice A0_10 l0_10.length c0_10, .slice A0_11 l0_11.length c0_11, .slice A0_12 l0_12.length c0_12] 36 (0, 0)) (kZ BK154.out) hb); have n1_ := Aside0.mk (blk_below (g := gb155) (o := .cells #[.slice A1_0 l1_0.length c1_0, .slice A1_1 l1_1.length c1_1, .slice A1_2 l1_2.length c1_2, .slice A1_3 l1_3.length c1_3, .slice A1_4 l1_4.length c1_4, .slice A1_5 l1_5.length c1_5, .int .i64 a1_6, .int .i64 a1_7, .int .i64 a1_8, .slice A1_9 l1_9.length c1_9, .slice A1_10 l1_10.length c1_10, .slice A1_11 l1_11.length c1_11, .slice A1_12 l1_12.length c1_12] 36 (0, 0)) (kZ BK155.out) hb); have n2_ := Aside0.mk (below_step bZ hb); clear BK154; clear BK155; clear HB; have BK154 := n0_; have BK155 := n1_; have HB := n2_; clear n0_ n1_ n2_; (try clear hb); (try clear hb2); (try clear hk); (try clear hi); have hcz38_0 := bc0 BK154.out; have hcz38_1 := bc1 BK154.out; have hcz38_2 := bc2 BK154.out; have hcz38_3 := bc3 BK154.out; have hcz38_4 := bc4 BK154.out; have hcz38_5 := bc5 BK154.out; have hcz38_6 := bc6 BK154.out; have hcz38_7 := bc7 BK154.out; have hcz38_8 := bc8 BK154.out; have hcz38_9 := bc9 BK154.out; have hcz38_10 : w37.cell? ⟨gb154, 10, none⟩ = some (.slice A0_10 l0_10.length c0_10) := (blk_cell BK154.out 10).trans rfl; have hcz38_11 : w37.cell? ⟨gb154, 11, none⟩ = some (.slice A0_11 l0_11.length c0_11) := (blk_cell BK154.out 11).trans rfl; have hcz38_12 : w37.cell? ⟨gb154, 12, none⟩ = some (.slice A0_12 l0_12.length c0_12) := (blk_cell BK154.out 12).trans rfl; have hfz38_0 := blk_frozen BK154.out 0; have hfz38_1 := blk_frozen BK154.out 1; have hfz38_2 := blk_frozen BK154.out 2; have hfz38_3 := blk_frozen BK154.out 3; have hfz38_4 := blk_frozen BK154.out 4; have hfz38_5 := blk_frozen BK154.out 5; have hfz38_6 := blk_frozen BK154.out 6; have hfz38_7 := blk_frozen BK154.out 7; have hfz38_8 := blk_frozen BK154.out 8; have hfz38_9 := blk_frozen BK154.out 9; have hfz38_10 := blk_frozen BK154.out 10; have hfz38_11 := blk_frozen BK154.out 11; have hfz38_12 := blk_frozen BK154.out 12; have hcz39_0 := bc0 BK155.out; have hcz39_1 := bc1 BK155.out; have hcz39_2 := bc2 BK155.out; have hcz39_3 := bc3 BK155.out; have hcz39_4 := bc4 BK155.out; have hcz39_5 := bc5 BK155.out; have hcz39_6 := bc6 BK155.out; have hcz39_7 := bc7 BK155.out; have hcz39_8 := bc8 BK155.out; have hcz39_9 := bc9 BK155.out; have hcz39_10 : w37.cell? ⟨gb155, 10, none⟩ = some (.slice A1_10 l1_10.length c1_10) := (blk_cell BK155.out 10).trans rfl; have hcz39_11 : w37.cell? ⟨gb155, 11, none⟩ = some (.slice A1_11 l1_11.length c1_11) := (blk_cell BK155.out 11).trans rfl; have hcz39_12 : w37.cell? ⟨gb155, 12, none⟩ = some (.slice A1_12 l1_12.length c1_12) := (blk_cell BK155.out 12).trans rfl; have hfz39_0 := blk_frozen BK155.out 0; have hfz39_1 := blk_frozen BK155.out 1; have hfz39_2 := blk_frozen BK155.out 2; have hfz39_3 := blk_frozen BK155.out 3; have hfz39_4 := blk_frozen BK155.out 4; have hfz39_5 := blk_frozen BK155.out 5; have hfz39_6 := blk_frozen BK155.out 6; have hfz39_7 := blk_frozen BK155.out 7; have hfz39_8 := blk_frozen BK155.out 8; have hfz39_9 := blk_frozen BK155.out 9; have hfz39_10 := blk_frozen BK155.out 10; have hfz39_11 := blk_frozen BK155.out 11; have hfz39_12 := blk_frozen BK155.out 12) | ((with_reducible refine gate_callee (f := 15) rfl ?_); refine goesL_ (some 39) rfl rfl Try.func15 (by kernel_rfl) rfl #[.agg #[.int .i64 a0_6, .int .i64 a0_7, .int .i64 a0_8], .agg #[.int .i64 a1_6, .int .i64 a1_7, .int .i64 a1_8]] rfl gZ ?_; (with_reducible refine (laws_eqTank.calls a0_6 a0_7 a0_8 a1_6 a1_7 a1_8 true _ A13.out).mono ?_); rintro e w40 ⟨rfl, hb⟩; refine ⟨_, rfl, ?_⟩; have n0_ := Aside0.mk (blk_below (g := gb154) (o := .cells #[.slice A0_0 l0_0.length c0_0, .slice A0_1 l0_1.length c0_1, .slice A0_2 l0_2.length c0_2, .slice A0_3 l0_3.length c0_3, .slice A0_4 l0_4.length c0_4, .slice A0_5 l0_5.length c0_5, .int .i64 a0_6, .int .i64 a0_7, .int .i64 a0_8, .slice A0_9 l0_9.length c0_9, .slice A0_10 l0_10.length c0_10, .slice A0_11 l0_11.length c0_11, .slice A0_12 l0_12.length c0_12] 36 (0, 0)) (kZ BK154.out) hb); have n1_ := Aside0.mk (blk_below (g := gb155) (o := .cells #[.slice A1_0 l1_0.length c1_0, .slice A1_1 l1_1.length c1_1, .slice A1_2 l1_2.length c1_2, .slice A1_3 l1_3.length c1_3, .slice A1_4 l1_4.length c1_4, .slice A1_5 l1_5.length c1_5, .int .i64 a1_6, .int .i64 a1_7, .int .i64 a1_8, .slice A1_9 l1_9.length c1_9, .slice A1_10 l1_10.length c1_10, .slice A1_11 l1_11.length c1_11, .slice A1_12 l1_12.length c1_12] 36 (0, 0)) (kZ BK155.out) hb); have n2_ := Aside0.mk (below_step bZ hb); clear BK154; clear BK155; clear HB; have BK154 := n0_; have BK155 := n1_; have HB := n2_; clear n0_ n1_ n2_; (try clear hb); (try clear hb2); (try clear hk); (try clear hi); have hcz41_0 := bc0 BK154.out; have hcz41_1 := bc1 BK154.out; have hcz41_2 := bc2 BK154.out; have hcz41_3 := bc3 BK154.out; have hcz41_4 := bc4 BK154.out; have hcz41_5 := bc5 BK154.out; have hcz41_6 := bc6 BK154.out; have hcz41_7 := bc7 BK154.out; have hcz41_8 := bc8 BK154.out; have hcz41_9 := bc9 BK154.out; have hcz41_10 : w40.cell? ⟨gb154, 10, none⟩ = some (.slice A0_10 l0_10.length c0_10) := (blk_cell BK154.out 10).trans rfl; have hcz41_11 : w40.cell? ⟨gb154, 11, none⟩ = some (.slice A0_11 l0_11.length c0_11) := (blk_cell BK154.out 11).trans rfl; have hcz41_12 : w40.cell? ⟨gb154, 12, none⟩ = some (.slice A0_12 l0_12.length c0_12) := (blk_cell BK154.out 12).trans rfl; have hfz41_0 := blk_frozen BK154.out 0; have hfz41_1 := blk_frozen BK154.out 1; have hfz41_2 := blk_frozen BK154.out 2; have hfz41_3 := blk_frozen BK154.out 3; have hfz41_4 := blk_frozen BK154.out 4; have hfz41_5 := blk_frozen BK154.out 5; have hfz41_6 := blk_frozen BK154.out 6; have hfz41_7 := blk_frozen BK154.out 7; have hfz41_8 := blk_frozen BK154.out 8; have hfz41_9 := blk_frozen BK154.out 9; have hfz41_10 := blk_frozen BK154.out 10; have hfz41_11 := blk_frozen BK154.out 11; have hfz41_12 := blk_frozen BK154.out 12; have hcz42_0 := bc0 BK155.out; have hcz42_1 := bc1 BK155.out; have hcz42_2 := bc2 BK155.out; have hcz42_3 := bc3 BK155.out; have hcz42_4 := bc4 BK155.out; have hcz42_5 := bc5 BK155.out; have hcz42_6 := bc6 BK155.out; have hcz42_7 := bc7 BK155.out; have hcz42_8 := bc8 BK155.out; have hcz42_9 := bc9 BK155.out; have hcz42_10 : w40.cell? ⟨gb155, 10, none⟩ = some (.slice A1_10 l1_10.length c1_10) := (blk_cell BK155.out 10).trans rfl; have hcz42_11 : w40.cell? ⟨gb155, 11, none⟩ = some (.slice A1_11 l1_11.length c1_11) := (blk_cell BK155.out 11).trans rfl; have hcz42_12 : w40.cell? ⟨gb155, 12, none⟩ = some (.slice A1_12 l1_12.length c1_12) := (blk_cell BK155.out 12).trans rfl; have hfz42_0 := blk_frozen BK155.out 0; have hfz42_1 := blk_frozen BK155.out 1; have hfz42_2 := blk_frozen BK155.out 2; have hfz42_3 := blk_frozen BK155.out 3; have hfz42_4 := blk_frozen BK155.out 4; have hfz42_5 := blk_frozen BK155.out 5; have hfz42_6 := blk_frozen BK155.out 6; have hfz42_7 := blk_frozen BK155.out 7; have hfz42_8 := blk_frozen BK155.out 8; have hfz42_9 := blk_frozen BK155.out 9; have hfz42_10 := blk_frozen BK155.out 10; have hfz42_11 := blk_frozen BK155.out 11; have hfz42_12 := blk_frozen BK155.out 12) | ((with_reducible refine gate_callee (f := 16) rfl ?_); refine goesL_ (some 45) rfl rfl Try.func16 (by kernel_rfl) rfl #[.slice A0_9 l0_9.length c0_9, .slice A1_9 l1_9.length c1_9] rfl gZ ?_; (with_reducible refine (laws_eqFuelS.calls k _ _ l0_9 _ _ l1_9 true _ ?side1 ?side2 ?side3 ?side4 A15.out).mono ?_); (case side1 => repeat (first | exact (Kd.C_below HR0_9.out HB.out) | (with_reducible refine Kd.C_alloc ?_ _) | (with_reducible refine Kd.C_drewN ?_ _) | (with_reducible refine Kd.C_drew ?_))); (case side2 => exact HC0_9.out); (case side3 => repeat (first | exact (Kd.C_below HR1_9.out HB.out) | (with_reducible refine Kd.C_alloc ?_ _) | (with_reducible refine Kd.C_drewN ?_ _) | (with_reducible refine Kd.C_drew ?_))); (case side4 => exact HC1_9.out); rintro e w43 ⟨rfl, hb⟩; refine ⟨_, rfl, ?_⟩; have n0_ := Aside0.mk (blk_below (g := gb154) (o := .cells #[.slice A0_0 l0_0.length c0_0, .slice A0_1 l0_1.length c0_1, .slice A0_2 l0_2.length c0_2, .slice A0_3 l0_3.length c0_3, .slice A0_4 l0_4.length c0_4, .slice A0_5 l0_5.length c0_5, .int .i64 a0_6, .int .i64 a0_7, .int .i64 a0_8, .slice A0_9 l0_9.length c0_9, .slice A0_10 l0_10.length c0_10, .slice A0_11 l0_11.length c0_11, .slice A0_12 l0_12.length c0_12] 36 (0, 0)) (kZ BK154.out) hb); have n1_ := Aside0.mk (blk_below (g := gb155) (o := .cells #[.slice A1_0 l1_0.length c1_0, .slice A1_1 l1_1.length c1_1, .slice A1_2 l1_2.length c1_2, .slice A1_3 l1_3.length c1_3, .slice A1_4 l1_4.length c1_4, .slice A1_5 l1_5.length c1_5, .int .i64 a1_6, .int .i64 a1_7, .int .i64 a1_8, .slice A1_9 l1_9.length c1_9, .slice A1_10 l1_10.length c1_10, .slice A1_11 l1_11.length c1_11, .slice A1_12 l1_12.length c1_12] 36 (0, 0)) (kZ BK155.out) hb); have n2_ := Aside0.mk (below_step bZ hb); clear BK154; clear BK155; clear HB; have BK154 := n0_; have BK155 := n1_; have HB := n2_; clear n0_ n1_ n2_; (try clear hb); (try clear hb2); (try clear hk); (try clear hi); have hcz44_0 := bc0 BK154.out; have hcz44_1 := bc1 BK154.out; have hcz44_2 := bc2 BK154.out; have hcz44_3 := bc3 BK154.out; have hcz44_4 := bc4 BK154.out; have hcz44_5 := bc5 BK154.out; have hcz44_6 := bc6 BK154.out; have hcz44_7 := bc7 BK154.out; have hcz44_8 := bc8 BK154.out; have hcz44_9 := bc9 BK154.out; have hcz44_10 : w43.cell? ⟨gb154, 10, none⟩ = some (.slice A0_10 l0_10.length c0_10) := (blk_cell BK154.out 10).trans rfl; have hcz44_11 : w43.cell? ⟨gb154, 11, none⟩ = some (.slice A0_11 l0_11.length c0_11) := (blk_cell BK154.out 11).trans rfl; have hcz44_12 : w43.cell? ⟨gb154, 12, none⟩ = some (.slice A0_12 l0_12.length c0_12) := (blk_cell BK154.out 12).trans rfl; have hfz44_0 := blk_frozen BK154.out 0; have hfz44_1 := blk_frozen BK154.out 1; have hfz44_2 := blk_frozen BK154.out 2; have hfz44_3 := blk_frozen BK154.out 3; have hfz44_4 := blk_frozen BK154.out 4; have hfz44_5 := blk_frozen BK154.out 5; have hfz44_6 := blk_frozen BK154.out 6; have hfz44_7 := blk_frozen BK154.out 7; have hfz44_8 := blk_frozen BK154.out 8; have hfz44_9 := blk_frozen BK154.out 9; have hfz44_10 := blk_frozen BK154.out 10; have hfz44_11 := blk_frozen BK154.out 11; have hfz44_12 := blk_frozen BK154.out 12; have hcz45_0 := bc0 BK155.out; have hcz45_1 := bc1 BK155.out; have hcz45_2 := bc2 BK155.out; have hcz45_3 := bc3 BK155.out; have hcz45_4 := bc4 BK155.out; have hcz45_5 := bc5 BK155.out; have hcz45_6 := bc6 BK155.out; have hcz45_7 := bc7 BK155.out; have hcz45_8 := bc8 BK155.out; have hcz45_9 := bc9 BK155.out; have hcz45_10 : w43.cell? ⟨gb155, 10, none⟩ = some (.slice A1_10 l1_10.length c1_10) := (blk_cell BK155.out 10).trans rfl; have hcz45_11 : w43.cell? ⟨gb155, 11, none⟩ = some (.slice A1_11 l1_11.length c1_11) := (blk_cell BK155.out 11).trans rfl; have hcz45_12 : w43.cell? ⟨gb155, 12, none⟩ = some (.slice A1_12 l1_12.length c1_12) := (blk_cell BK155.out 12).trans rfl; have hfz45_0 := blk_frozen BK155.out 0; have hfz45_1 := blk_frozen BK155.out 1; have hfz45_2 := blk_frozen BK155.out 2; have hfz45_3 := blk_frozen BK155.out 3; have hfz45_4 := blk_frozen BK155.out 4; have hfz45_5 := blk_frozen BK155.out 5; have hfz45_6 := blk_frozen BK155.out 6; have hfz45_7 := blk_frozen BK155.out 7; have hfz45_8 := blk_frozen BK155.out 8; have hfz45_9 := blk_frozen BK155.out 9; have hfz45_10 := blk_frozen BK155.out 10; have hfz45_11 := blk_frozen BK155.out 11; have hfz45_12 := blk_frozen BK155.out 12) | ((with_reducible refine gate_callee (f := 17) rfl ?_); refine goesL_ (some 51) rfl rfl Try.func17 (by kernel_rfl) rfl #[.slice A0_10 l0_10.length c0_10, .slice A1_10 l1_10.length c1_10] rfl gZ ?_; (with_reducible refine (laws_eqRepairS.calls k _ _ l0_10 _ _ l1_10 true _ ?side1 ?side2 ?side3 ?side4 A17.out).mono ?_); (case side1 => repeat (first | exact (Kd.C_below HR0_10.out HB.out) | (with_reducible refine Kd.C_alloc ?_ _) | (with_reducible refine Kd.C_drewN ?_ _) | (with_reducible refine Kd.C_drew ?_))); (case side2 => exact HC0_10.out); (case side3 => repeat (first | exact (Kd.C_below HR1_10.out HB.out) | (with_reducible refine Kd.C_alloc ?_ _) | (with_reducible refine Kd.C_drewN ?_ _) | (with_reducible refine Kd.C_drew ?_))); (case side4 => exact HC1_10.out); rintro e w46 ⟨rfl, hb⟩; refine ⟨_, rfl, ?_⟩; have n0_ := Aside0.mk (blk_below (g := gb154) (o := .cells #[.slice A0_0 l0_0.length c0_0, .slice A0_1 l0_1.length c0_1, .slice A0_2 l0_2.length c0_2, .slice A0_3 l0_3.length c0_3, .slice A0_4 l0_4.length c0_4, .slice A0_5 l0_5.length c0_5, .int .i64 a0_6, .int .i64 a0_7, .int .i64 a0_8, .slice A0_9 l0_9.length c0_9, .slice A0_10 l0_10.length c0_10, .slice A0_11 l0_11.length c0_11, .slice A0_12 l0_12.length c0_12] 36 (0, 0)) (kZ BK154.out) hb); have n1_ := Aside0.mk (blk_below (g := gb155) (o := .cells #[.slice A1_0 l1_0.length c1_0, .slice A1_1 l1_1.length c1_1, .slice A1_2 l1_2.length c1_2, .slice A1_3 l1_3.length c1_3, .slice A1_4 l1_4.length c1_4, .slice A1_5 l1_5.length c1_5, .int .i64 a1_6, .int .i64 a1_7, .int .i64 a1_8, .slice A1_9 l1_9.length c1_9, .slice A1_10 l1_10.length c1_10, .slice A1_11 l1_11.length c1_11, .slice A1_12 l1_12.length c1_12] 36 (0, 0)) (kZ BK155.out) hb); have n2_ := Aside0.mk (below_step bZ hb); clear BK154; clear BK155; clear HB; have BK154 := n0_; have BK155 := n1_; have HB := n2_; clear n0_ n1_ n2_; (try clear hb); (try clear hb2); (try clear hk); (try clear hi); have hcz47_0 := bc0 BK154.out; have hcz47_1 := bc1 BK154.out; have hcz47_2 := bc2 BK154.out; have hcz47_3 := bc3 BK154.out; have hcz47_4 := bc4 BK154.out; have hcz47_5 := bc5 BK154.out; have hcz47_6 := bc6 BK154.out; have hcz47_7 := bc7 BK154.out; have hcz47_8 := bc8 BK154.out; have hcz47_9 := bc9 BK154.out; have hcz47_10 : w46.cell? ⟨gb154, 10, none⟩ = some (.slice A0_10 l0_10.length c0_10) := (blk_cell BK154.out 10).trans rfl; have hcz47_11 : w46.cell? ⟨gb154, 11, none⟩ = some (.slice A0_11 l0_11.length c0_11) := (blk_cell BK154.out 11).trans rfl; have hcz47_12 : w46.cell? ⟨gb154, 12, none⟩ = some (.slice A0_12 l0_12.length c0_12) := (blk_cell BK154.out 12).trans rfl; have hfz47_0 := blk_frozen BK154.out 0; have hfz47_1 := blk_frozen BK154.out 1; have hfz47_2 := blk_frozen BK154.out 2; have hfz47_3 := blk_frozen BK154.out 3; have hfz47_4 := blk_frozen BK154.out 4; have hfz47_5 := blk_frozen BK154.out 5; have hfz47_6 := blk_frozen BK154.out 6; have hfz47_7 := blk_frozen BK154.out 7; have hfz47_8 := blk_frozen BK154.out 8; have hfz47_9 := blk_frozen BK154.out 9; have hfz47_10 := blk_frozen BK154.out 10; have hfz47_11 := blk_frozen BK154.out 11; have hfz47_12 := blk_frozen BK154.out 12; have hcz48_0 := bc0 BK155.out; have hcz48_1 := bc1 BK155.out; have hcz48_2 := bc2 BK155.out; have hcz48_3 := bc3 BK155.out; have hcz48_4 := bc4 BK155.out; have hcz48_5 := bc5 BK155.out; have hcz48_6 := bc6 BK155.out; have hcz48_7 := bc7 BK155.out; have hcz48_8 := bc8 BK155.out; have hcz48_9 := bc9 BK155.out; have hcz48_10 : w46.cell? ⟨gb155, 10, none⟩ = some (.slice A1_10 l1_10.length c1_10) := (blk_cell BK155.out 10).trans rfl; have hcz48_11 : w46.cell? ⟨gb155, 11, none⟩ = some (.slice A1_11 l1_11.length c1_11) := (blk_cell BK155.out 11).trans rfl; have hcz48_12 : w46.cell? ⟨gb155, 12, none⟩ = some (.slice A1_12 l1_12.length c1_12) := (blk_cell BK155.out 12).trans rfl; have hfz48_0 := blk_frozen BK155.out 0; have hfz48_1 := blk_frozen BK155.out 1; have hfz48_2 := blk_frozen BK155.out 2; have hfz48_3 := blk_frozen BK155.out 3; have hfz48_4 := blk_frozen BK155.out 4; have hfz48_5 := blk_frozen BK155.out 5; have hfz48_6 := blk_frozen BK155.out 6; have hfz48_7 := blk_frozen BK155.out 7; have hfz48_8 := blk_frozen BK155.out 8; have hfz48_9 := blk_frozen BK155.out 9; have hfz48_10 := blk_frozen BK155.out 10; have hfz48_11 := blk_frozen BK155.out 11; have hfz48_12 := blk_frozen BK155.out 12) | ((with_reducible refine gate_callee (f := 18) rfl ?_); refine goesL_ (some 57) rfl rfl Try.func18 (by kernel_rfl) rfl #[.slice A0_11 l0_11.length c0_11, .slice A1_11 l1_11.length c1_11] rfl gZ ?_; (with_reducible refine (laws_eqTenantS.calls k _ _ l0_11 _ _ l1_11 true _ ?side1 ?side2 ?side3 ?side4 A19.out).mono ?_); (case side1 => repeat (first | exact (Kd.C_below HR0_11.out HB.out) | (with_reducible refine Kd.C_alloc ?_ _) | (with_reducible refine Kd.C_drewN ?_ _) | (with_reducible refine Kd.C_drew ?_))); (case side2 => exact HC0_11.out); (case side3 => repeat (first | exact (Kd.C_below HR1_11.out HB.out) | (with_reducible refine Kd.C_alloc ?_ _) | (with_reducible refine Kd.C_drewN ?_ _) | (with_reducible refine Kd.C_drew ?_))); (case side4 => exact HC1_11.out); rintro e w49 ⟨rfl, hb⟩; refine ⟨_, rfl, ?_⟩; have n0_ := Aside0.mk (blk_below (g := gb154) (o := .cells #[.slice A0_0 l0_0.length c0_0, .slice A0_1 l0_1.length c0_1, .slice A0_2 l0_2.length c0_2, .slice A0_3 l0_3.length c0_3, .slice A0_4 l0_4.length c0_4, .slice A0_5 l0_5.length c0_5, .int .i64 a0_6, .int .i64 a0_7, .int .i64 a0_8, .slice A0_9 l0_9.length c0_9, .slice A0_10 l0_10.length c0_10, .slice A0_11 l0_11.length c0_11, .slice A0_12 l0_12.length c0_12] 36 (0, 0)) (kZ BK154.out) hb); have n1_ := Aside0.mk (blk_below (g := gb155) (o := .cells #[.slice A1_0 l1_0.length c1_0, .slice A1_1 l1_1.length c1_1, .slice A1_2 l1_2.length c1_2, .slice A1_3 l1_3.length c1_3, .slice A1_4 l1_4.length c1_4, .slice A1_5 l1_5.length c1_5, .int .i64 a1_6, .int .i64 a1_7, .int .i64 a1_8, .slice A1_9 l1_9.length c1_9, .slice A1_10 l1_10.length c1_10, .slice A1_11 l1_11.length c1_11, .slice A1_12 l1_12.length c1_12] 36 (0, 0)) (kZ BK155.out) hb); have n2_ := Aside0.mk (below_step bZ hb); clear BK154; clear BK155; clear HB; have BK154 := n0_; have BK155 := n1_; have HB := n2_; clear n0_ n1_ n2_; (try clear hb); (try clear hb2); (try clear hk); (try clear hi); have hcz50_0 := bc0 BK154.out; have hcz50_1 := bc1 BK154.out; have hcz50_2 := bc2 BK154.out; have hcz50_3 := bc3 BK154.out; have hcz50_4 := bc4 BK154.out; have hcz50_5 := bc5 BK154.out; have hcz50_6 := bc6 BK154.out; have hcz50_7 := bc7 BK154.out; have hcz50_8 := bc8 BK154.out; have hcz50_9 := bc9 BK154.out; have hcz50_10 : w49.cell? ⟨gb154, 10, none⟩ = some (.slice A0_10 l0_10.length c0_10) := (blk_cell BK154.out 10).trans rfl; have hcz50_11 : w49.cell? ⟨gb154, 11, none⟩ = some (.slice A0_11 l0_11.length c0_11) := (blk_cell BK154.out 11).trans rfl; have hcz50_12 : w49.cell? ⟨gb154, 12, none⟩ = some (.slice A0_12 l0_12.length c0_12) := (blk_cell BK154.out 12).trans rfl; have hfz50_0 := blk_frozen BK154.out 0; have hfz50_1 := blk_frozen BK154.out 1; have hfz50_2 := blk_frozen BK154.out 2; have hfz50_3 := blk_frozen BK154.out 3; have hfz50_4 := blk_frozen BK154.out 4; have hfz50_5 := blk_frozen BK154.out 5; have hfz50_6 := blk_frozen BK154.out 6; have hfz50_7 := blk_frozen BK154.out 7; have hfz50_8 := blk_frozen BK154.out 8; have hfz50_9 := blk_frozen BK154.out 9; have hfz50_10 := blk_frozen BK154.out 10; have hfz50_11 := blk_frozen BK154.out 11; have hfz50_12 := blk_frozen BK154.out 12; have hcz51_0 := bc0 BK155.out; have hcz51_1 := bc1 BK155.out; have hcz51_2 := bc2 BK155.out; have hcz51_3 := bc3 BK155.out; have hcz51_4 := bc4 BK155.out; have hcz51_5 := bc5 BK155.out; have hcz51_6 := bc6 BK155.out; have hcz51_7 := bc7 BK155.out; have hcz51_8 := bc8 BK155.out; have hcz51_9 := bc9 BK155.out; have hcz51_10 : w49.cell? ⟨gb155, 10, none⟩ = some (.slice A1_10 l1_10.length c1_10) := (blk_cell BK155.out 10).trans rfl; have hcz51_11 : w49.cell? ⟨gb155, 11, none⟩ = some (.slice A1_11 l1_11.length c1_11) := (blk_cell BK155.out 11).trans rfl; have hcz51_12 : w49.cell? ⟨gb155, 12, none⟩ = some (.slice A1_12 l1_12.length c1_12) := (blk_cell BK155.out 12).trans rfl; have hfz51_0 := blk_frozen BK155.out 0; have hfz51_1 := blk_frozen BK155.out 1; have hfz51_2 := blk_frozen BK155.out 2; have hfz51_3 := blk_frozen BK155.out 3; have hfz51_4 := blk_frozen BK155.out 4; have hfz51_5 := blk_frozen BK155.out 5; have hfz51_6 := blk_frozen BK155.out 6; have hfz51_7 := blk_frozen BK155.out 7; have hfz51_8 := blk_frozen BK155.out 8; have hfz51_9 := blk_frozen BK155.out 9; have hfz51_10 := blk_frozen BK155.out 10; have hfz51_11 := blk_frozen BK155.out 11; have hfz51_12 := blk_frozen BK155.out 12) | ((with_reducible refine gate_callee (f := 19) rfl ?_); refine goesL_ (some 63) rfl rfl Try.func19 (by kernel_rfl) rfl #[.slice A0_12 l0_12.length c0_12, .slice A1_12 l1_12.length c1_12] rfl gZ ?_; (with_reducible refine (laws_eqDutyS.calls k _ _ l0_12 _ _ l1_12 true _ ?side1 ?side2 ?side3 ?side4 A21.out).mono ?_); (case side1 => repeat (first | exact (Kd.C_below HR0_12.out HB.out) | (with_reducible refine Kd.C_alloc ?_ _) | (with_reducible refine Kd.C_drewN ?_ _) | (with_reducible refine Kd.C_drew ?_))); (case side2 => exact HC0_12.out); (case side3 => repeat (first | exact (Kd.C_below HR1_12.out HB.out) | (with_reducible refine Kd.C_alloc ?_ _) | (with_reducible refine Kd.C_drewN ?_ _) | (with_reducible refine Kd.C_drew ?_))); (case side4 => exact HC1_12.out); rintro e w52 ⟨rfl, hb⟩; refine ⟨_, rfl, ?_⟩; have n0_ := Aside0.mk (blk_below (g := gb154) (o := .cells #[.slice A0_0 l0_0.length c0_0, .slice A0_1 l0_1.length c0_1, .slice A0_2 l0_2.length c0_2, .slice A0_3 l0_3.length c0_3, .slice A0_4 l0_4.length c0_4, .slice A0_5 l0_5.length c0_5, .int .i64 a0_6, .int .i64 a0_7, .int .i64 a0_8, .slice A0_9 l0_9.length c0_9, .slice A0_10 l0_10.length c0_10, .slice A0_11 l0_11.length c0_11, .slice A0_12 l0_12.length c0_12] 36 (0, 0)) (kZ BK154.out) hb); have n1_ := Aside0.mk (blk_below (g := gb155) (o := .cells #[.slice A1_0 l1_0.length c1_0, .slice A1_1 l1_1.length c1_1, .slice A1_2 l1_2.length c1_2, .slice A1_3 l1_3.length c1_3, .slice A1_4 l1_4.length c1_4, .slice A1_5 l1_5.length c1_5, .int .i64 a1_6, .int .i64 a1_7, .int .i64 a1_8, .slice A1_9 l1_9.length c1_9, .slice A1_10 l1_10.length c1_10, .slice A1_11 l1_11.length c1_11, .slice A1_12 l1_12.length c1_12] 36 (0, 0)) (kZ BK155.out) hb); have n2_ := Aside0.mk (below_step bZ hb); clear BK154; clear BK155; clear HB; have BK154 := n0_; have BK155 := n1_; have HB := n2_; clear n0_ n1_ n2_; (try clear hb); (try clear hb2); (try clear hk); (try clear hi)))
           go_ret
           exact ⟨eZ, bZ⟩
          ·replace c22 := Bool.eq_false_iff.mpr c22
           subst c22
           have H1 : (none) = some r := by rw [if_neg (show ¬ (false = true) by decide)] at H; exact H
           clear H
           have H := H1
           clear H1
           exact absurd H (by simp)
         ·replace c20 := Bool.eq_false_iff.mpr c20
          subst c20
          have H1 : (none) = some r := by rw [if_neg (show ¬ (false = true) by decide)] at H; exact H
          clear H
          have H := H1
          clear H1
          exact absurd H (by simp)
        ·replace c18 := Bool.eq_false_iff.mpr c18
         subst c18
         have H1 : (none) = some r := by rw [if_neg (show ¬ (false = true) by decide)] at H; exact H
         clear H
         have H := H1
         clear H1
         exact absurd H (by simp)
       ·replace c16 := Bool.eq_false_iff.mpr c16
        subst c16
        have H1 : (none) = some r := by rw [if_neg (show ¬ (false = true) by decide)] at H; exact H
        clear H
        have H := H1
        clear H1
        exact absurd H (by simp)
      ·replace c14 := Bool.eq_false_iff.mpr c14
       subst c14
       have H1 : (none) = some r := by rw [if_neg (show ¬ (false = true) by decide)] at H; exact H
       clear H
       have H := H1
       clear H1
       exact absurd H (by simp)
     ·replace c12 := Bool.eq_false_iff.mpr c12
      subst c12
      have H1 : (none) = some r := by rw [if_neg (show ¬ (false = true) by decide)] at H; exact H
      clear H
      have H := H1
      clear H1
      exact absurd H (by simp)
    ·replace c10 := Bool.eq_false_iff.mpr c10
     subst c10
     have H1 : (none) = some r := by rw [if_neg (show ¬ (false = true) by decide)] at H; exact H
     clear H
     have H := H1
     clear H1
     exact absurd H (by simp)
   ·replace c8 := Bool.eq_false_iff.mpr c8
    subst c8
    have H1 : (none) = some r := by rw [if_neg (show ¬ (false = true) by decide)] at H; exact H
    clear H
    have H := H1
    clear H1
    exact absurd H (by simp)
  ·replace c6 := Bool.eq_false_iff.mpr c6
   subst c6
   have H1 : (none) = some r := by rw [if_neg (show ¬ (false = true) by decide)] at H; exact H
   clear H
   have H := H1
   clear H1
   exact absurd H (by simp)
 ·replace c4 := Bool.eq_false_iff.mpr c4
  subst c4
  have H1 : (none) = some r := by rw [if_neg (show ¬ (false = true) by decide)] at H; exact H
  clear H
  have H := H1
  clear H1
  exact absurd H (by simp)
end Go.Proofs.Ytckhjpjcimjclaa.XR
end

section
namespace Go.Proofs.Ytckhjpjcimjclaa.XR
open Go.RowKit Go.Proofs.YtckhjpjcimjclaaW.PrintWords Go.Proofs.YtckhjpjcimjclaaW.PrintLast Go.Proofs.YtckhjpjcimjclaaW.PrintMore
attribute [local go_sem] run_eql_slice_nil binOp_string_gtr' binOp_string_leq' binOp_string_geq' max2_int min2_int max_two min_two max_three min_three max_four min_four   -- for this text's walks alone
set_option linter.unusedVariables false
set_option linter.unusedSimpArgs false
def laws_markInt64S.l0 : Nat → List Int → Int → Int → Option (Int × List Int)
 | 0, _, _, _ => none
 | k + 1, x0, x1, x5 => if x5 < (x0.length : Int) then (if 0 ≤ x5 then (laws_markInt64S.l0 k (x0.set (x5 : Int).toNat x1) (wrap64 (x1 + 1)) (wrap64 (x5 + 1))) else (none)) else (some (x1, x0))
def laws_markInt64S.f (k : Nat) (l0 : List Int) (a1 : Int) : Option (Int × List Int) := laws_markInt64S.l0 k l0 a1 0
set_option maxHeartbeats 8000000 in
set_option maxRecDepth 100000 in
theorem laws_markInt64S.calls (k : Nat) (P0_ : Nat → Prop) (u9000_ : Value) (l0 : List Int) (a1 : Int) (r1 : Int) (r2 : List Int) (w0 w : World) (hB : Below w0.heap.size w0 w) (ho0 : Kd.R (Kd.int .i64) 2 w w0.heap.size P0_ u9000_ l0) (h : laws_markInt64S.f k l0 a1 = some (r1, r2)) :
  Calls Try.prog 21 #[u9000_, .int .i64 a1] w fun e w' => e = .returned (.int .i64 r1) ∧ Kd.R (Kd.int .i64) 2 w' w0.heap.size (fun k_ => (P0_ k_ ∨ w.heap.size ≤ k_)) u9000_ r2 ∧ Below w0.heap.size w0 w' ∧ Kept w w' (fun k_ => P0_ k_) := by
 have HO0 := Aside0.mk (show Kd.R (Kd.int .i64) 2 w w0.heap.size (fun k_ => (P0_ k_ ∨ w.heap.size ≤ k_)) u9000_ l0 from Kd.R_mono ho0 (fun k_ hk => (.inl hk)))
 have HK := Aside0.mk (Kept.refl w (fun k_ => P0_ k_))
 have HW0 := Aside0.mk hB.size
 have HB := Aside0.mk hB
 clear hB
 have H : (laws_markInt64S.l0 k l0 a1 0) = some (r1, r2) := h
 clear h
 have H' := Aside0.mk H
 clear H
 go_enter Try.func21, Try.ntmps21
 go_wp2
 go_loopg [1, 5] k (fun kq v1 v5 w' => ∃ (x0_1 : List Int) (x1_1 : Int) (x5_1 : Int), v1 = .int .i64 x1_1 ∧ v5 = .int .i64 x5_1 ∧ Aside0 (laws_markInt64S.l0 kq x0_1 x1_1 x5_1 = some (r1, r2)) ∧ Aside0 (kq ≤ k) ∧ Aside0 (Kd.R (Kd.int .i64) 2 w' w0.heap.size (fun k_ => (P0_ k_ ∨ w.heap.size ≤ k_)) u9000_ x0_1) ∧ Aside0 (Kept w w' (fun k_ => P0_ k_)) ∧ Aside0 (Below w0.heap.size w0 w'))
 case atStart => exact ⟨(l0), (a1), (0), sZ, sZ, H', ⟨Nat.le_refl _⟩, ⟨Kd.rZ HO0.out⟩, ⟨by repeat (first | (with_reducible first | exact HK.out | apply Kept.alloc | apply Kept.drewN | apply Kept.drew) | exact HK.out)⟩, ⟨bZ⟩⟩
 case round =>
  clear H'; (try clear c2); (try clear p2)
  obtain ⟨x0_1, x1_1, x5_1, rfl, rfl, HA, HK1, HO_0, HK, HB⟩ := hrel
  cases gk with
  | zero => exact absurd HA.out (by simp [laws_markInt64S.l0])
  | succ k1 =>
   have H := HA.out
   clear HA
   simp only [laws_markInt64S.l0] at H
   by_cases c3 : x5_1 < (x0_1.length : Int)
   ·rw [if_pos c3] at H
    have c3b0 : decide (x5_1 < (x0_1.length : Int)) = true := decide_eq_true c3
    clear c3
    by_cases c4 : 0 ≤ x5_1
    ·rw [if_pos c4] at H
     have c4b0 : decide (0 ≤ x5_1) = true := decide_eq_true c4
     clear c4
     obtain ⟨y166, hy166⟩ : ∃ y_ : List Int, y_ = (x0_1.set (x5_1 : Int).toNat x1_1) := ⟨_, rfl⟩
     replace H : (laws_markInt64S.l0 k1 y166 (wrap64 (x1_1 + 1)) (wrap64 (x5_1 + 1))) = some (r1, r2) := by first | (rw [hy166]; with_reducible exact H) | (have H2_ := (Option.bind_some _ _).symm.trans H; rw [hy166]; with_reducible exact H2_) | (have H2_ := (Option.bind_some _ _).symm.trans H; with_reducible exact H2_) | with_reducible exact H | (rw [hy166]; exact H) | exact H
     have Ny166 := Aside0.mk hy166
     clear hy166
     have H' := Aside0.mk H
     clear H
     obtain ⟨Ao6, co6, eo6⟩ := Kd.R_slice HO_0.out
     subst eo6
     have p5 : 0 ≤ (x5_1 : Int) := oZ
     have q5 : (x5_1 : Int) < ((x0_1.length : Int) : Int) := oZ
     obtain ⟨go5, co5, eo5, gb5, gl5, cl5, HG5⟩ := Kd.R_form HO_0.out (by omega)
     (first | cases eo5 | (injection eo5 with ea_ en_ ec_; (first | subst ea_ | (injection ea_ with ea_; subst ea_)); subst ec_; clear en_))
     have GB5 := Aside0.mk gb5
     have GG5 := Aside0.mk HG5
     clear gb5 gl5 HG5
     have HMgo5 := Aside0.mk (show (P0_ go5 ∨ w.heap.size ≤ go5) from (HO_0.out.1 _ rfl))
     obtain ⟨hx5_0, hf5_0⟩ := Kd.R_celln 0 HO_0.out (x5_1 : Int) p5 q5
     replace p5 := eq_true p5
     replace q5 := eq_true q5
     have HP7 := Kd.R_putg HO_0.out (x5_1 : Int) x1_1
     go_wp2_with (first | ((with_reducible refine gate_store (t := 2) (p := 15) rfl ?_); refine store_event (t := 2) (p := 15) (v := ?vo_w8) (w1 := (wr.setCell ⟨go5, (x5_1 : Int).toNat, none⟩ (.int .i64 x1_1))) ?hg ?ho ?hn ?hr ?_; (case ho => rfl); (case hg => rfl); (case hn => rfl); (case hr => first | (go_simp; done) | (go_simp; rfl)); intro w8 hw; have hg : wr.grownBy w8 (some go5) := (by rw [hw]; exact HP7.2); have hp_ : Kd.R (Kd.int .i64) 2 w8 w0.heap.size (fun k_ => (P0_ k_ ∨ w.heap.size ≤ k_)) (.slice (some ⟨go5, 0, none⟩) x0_1.length co6) y166 := (by rw [hw, Ny166.out]; exact HP7.1); clear HP7; have n0_ := Aside0.mk (hp_); have n1_ := Aside0.mk ((by rw [hw]; exact below_set (HB.out) GB5.out : Below w0.heap.size w0 w8)); have n2_ := Aside0.mk (Kept.of_grown (S := (fun k_ => P0_ k_)) hg (by repeat (first | (with_reducible first | exact HK.out | apply Kept.alloc | apply Kept.drewN | apply Kept.drew) | exact HK.out)) (fun k_ e_ => (HO_0.out.1 k_ e_))); clear HO_0; clear HB; clear HK; have HO_0 := n0_; have HB := n1_; have HK := n2_; clear n0_ n1_ n2_; clear hg hw hp_))
     go_roundg k1
     case measure => have := HK1.out; omega
     case rel => exact ⟨(y166), (wrap64 (x1_1 + 1)), (wrap64 (x5_1 + 1)), sZ, sZ, H', ⟨by have := HK1.out; omega⟩, ⟨Kd.rZ HO_0.out⟩, ⟨by repeat (first | (with_reducible first | exact HK.out | apply Kept.alloc | apply Kept.drewN | apply Kept.drew) | exact HK.out)⟩, ⟨bZ⟩⟩
    ·rw [if_neg c4] at H
     exact absurd H (by simp)
   ·rw [if_neg c3] at H
    have c3b0 : decide (x5_1 < (x0_1.length : Int)) = false := decide_eq_false c3
    clear c3
    simp only [Option.some.injEq, Prod.mk.injEq] at H
    obtain ⟨rfl, rfl⟩ := H
    obtain ⟨Ao9, co9, eo9⟩ := Kd.R_slice HO_0.out
    subst eo9
    go_wp2
    go_ret
    exact ⟨eZ, Kd.rZ HO_0.out, bZ, by repeat (first | (with_reducible first | exact HK.out | apply Kept.alloc | apply Kept.drewN | apply Kept.drew) | exact HK.out)⟩
def laws_markPipeS.f (k : Nat) (l0 : List (S88)) (a1 : Int) : Option (Int) := if l0.length = 0 then some a1 else none
set_option maxHeartbeats 1000000 in
theorem laws_markPipeS.calls (k : Nat) (A0 : Option Addr) (c0 : Nat) (l0 : List (S88)) (a1 : Int) (r : Int) (w : World) (hr0 : Kd.C k88 w A0 l0.length l0) (hc0 : l0.length ≤ c0) (h : laws_markPipeS.f k l0 a1 = some r) :
  Calls Try.prog 46 #[.slice A0 l0.length c0, .int .i64 a1] w fun e w' => e = .returned (.int .i64 r) ∧ Below w.heap.size w w' := by
 unfold laws_markPipeS.f at h
 by_cases hl : l0.length = 0
 ·rw [if_pos hl] at h
  simp only [Option.some.injEq] at h
  subst h
  rw [hl]
  clear hr0 hc0
  go_enter Try.func46, Try.ntmps46
  go_wp2
  go_loopw [1, 5] (fun v1 v5 wr => v1 = .int .i64 a1 ∧ v5 = .int .i64 0 ∧ wr = w) (fun _ _ _ => 0)
  case atStart => exact ⟨rfl, rfl, rfl⟩
  case round =>
   obtain ⟨rfl, rfl, rfl⟩ := hrel
   go_wp2
   go_ret
   exact ⟨rfl, Below.refl _ _⟩
 ·rw [if_neg hl] at h
  exact absurd h (by simp)
def laws_markNetwork.f (k : Nat) (l0_0 : List Int) (l0_1 : List (S88)) (a1 : Int) : Option (Int × List Int) := (laws_markInt64S.f k l0_0 a1).bind fun bt168 => ((laws_markPipeS.f k l0_1 bt168.1).bind fun t170 => (some (t170, bt168.2)))
set_option maxHeartbeats 8000000 in
set_option maxRecDepth 100000 in
theorem laws_markNetwork.calls (k : Nat) (P0_0_ : Nat → Prop) (u9000_ : Value) (l0_0 : List Int) (A0_1 : Option Addr) (c0_1 : Nat) (l0_1 : List (S88)) (a1 : Int) (r1 : Int) (r2 : List Int) (w0 w : World) (hB : Below w0.heap.size w0 w) (ho0_0 : Kd.R (Kd.int .i64) 2 w w0.heap.size P0_0_ u9000_ l0_0) (hr0_1 : ∀ W_, Kept w W_ (fun k_ => P0_0_ k_) → Kd.C k88 W_ A0_1 l0_1.length l0_1) (hc0_1 : l0_1.length ≤ c0_1) (h : laws_markNetwork.f k l0_0 l0_1 a1 = some (r1, r2)) :
  Calls Try.prog 20 #[.agg #[u9000_, .slice A0_1 l0_1.length c0_1], .int .i64 a1] w fun e w' => e = .returned (.int .i64 r1) ∧ Kd.R (Kd.int .i64) 2 w' w0.heap.size (fun k_ => (P0_0_ k_ ∨ w.heap.size ≤ k_)) u9000_ r2 ∧ Below w0.heap.size w0 w' ∧ Kept w w' (fun k_ => P0_0_ k_) := by
 have hu25 := Try.underlying25
 have HO0_0 := Aside0.mk (show Kd.R (Kd.int .i64) 2 w w0.heap.size (fun k_ => (P0_0_ k_ ∨ w.heap.size ≤ k_)) u9000_ l0_0 from Kd.R_mono ho0_0 (fun k_ hk => (.inl hk)))
 have HR0_1 := Aside0.mk hr0_1
 have HC0_1 := Aside0.mk hc0_1
 clear hr0_1 hc0_1
 have HK := Aside0.mk (Kept.refl w (fun k_ => P0_0_ k_))
 have HW0 := Aside0.mk hB.size
 have HB := Aside0.mk hB
 clear hB
 have H : ((laws_markInt64S.f k l0_0 a1).bind fun bt168 => ((laws_markPipeS.f k l0_1 bt168.1).bind fun t170 => (some (t170, bt168.2)))) = some (r1, r2) := h
 clear h
 replace H := Option.bind_eq_some_iff.mp H
 obtain ⟨⟨t168, t169⟩, A30, H⟩ := H
 replace H : ((laws_markPipeS.f k l0_1 t168).bind fun t170 => (some (t170, t169))) = some (r1, r2) := H
 have A3 := Aside0.mk A30
 clear A30
 replace H := Option.bind_eq_some_iff.mp H
 obtain ⟨t170, A40, H⟩ := H
 replace H : (some (t170, t169)) = some (r1, r2) := H
 have A4 := Aside0.mk A40
 clear A40
 simp only [Option.some.injEq, Prod.mk.injEq] at H
 obtain ⟨rfl, rfl⟩ := H
 obtain ⟨Ao5, co5, eo5⟩ := Kd.R_slice HO0_0.out
 subst eo5
 go_enter Try.func20, Try.ntmps20
 go_wp2_with (first | ((with_reducible refine gate_dst (N := 2) rfl ?_); refine boxZ 2 #[.slice Ao5 l0_0.length co5, .slice A0_1 l0_1.length c0_1] 25 rfl rfl ?_; intro gb167 hg w6 hbox hb; have n0_ := Aside0.mk (Kd.R_below (Kd.rZ HO0_0.out) hb); have n1_ := Aside0.mk (Kept.below (S := (fun k_ => P0_0_ k_)) (by repeat (first | (with_reducible first | exact HK.out | apply Kept.alloc | apply Kept.drewN | apply Kept.drew) | exact HK.out)) hb); have n2_ := Aside0.mk (below_step bZ hb); have n3_ := Aside0.mk (hbox); have n4_ := Aside0.mk ((by rw [hg]; exact (by first | exact HK.out.1 | exact (show Kept w _ (fun k_ => P0_0_ k_) from by repeat (first | (with_reducible first | exact HK.out | apply Kept.alloc | apply Kept.drewN | apply Kept.drew) | exact HK.out)).1) : w.heap.size ≤ gb167)); have n5_ := Aside0.mk ((by rw [hg]; exact bsZ : w0.heap.size ≤ gb167)); clear HO0_0; clear HK; clear HB; have HO0_0 := n0_; have HK := n1_; have HB := n2_; have BK167 := n3_; have GW167 := n4_; have GE167 := n5_; clear n0_ n1_ n2_ n3_ n4_ n5_; clear hb hbox hg; have hcz7_0 := bc0 BK167.out; have hcz7_1 := bc1 BK167.out; have hfz7_0 := blk_frozen BK167.out 0; have hfz7_1 := blk_frozen BK167.out 1) | ((with_reducible refine gate_callee (f := 21) rfl ?_); refine goesL_ (some 8) rfl rfl Try.func21 (by kernel_rfl) rfl #[.slice Ao5 l0_0.length co5, .int .i64 a1] rfl gZ ?_; (with_reducible refine (laws_markInt64S.calls k (fun k_ => some k_ = (.slice Ao5 l0_0.length co5 : Value).ownBlock) (.slice Ao5 l0_0.length co5) l0_0 a1 t168 t169 w0 _ ?side1 ?side2 A3.out).mono ?_); (case side1 => repeat (first | (with_reducible first | exact HB.out | apply below_alloc | apply pw_below_drewN | apply below_drew1 | refine below_set ?_ GE167.out) | exact HB.out)); (case side2 => exact Kd.R_tight rfl HO0_0.out); rintro e w8 ⟨rfl, hy0, hb, hkp⟩; refine ⟨_, rfl, ?_⟩; have n0_ := Aside0.mk (Kd.R_reok rfl hy0 (fun k_ e_ => HO0_0.out.1 k_ e_)); have n1_ := Aside0.mk (blk_kept (kZ BK167.out) hkp (fun hs_ => (fun e_ => (Kd.R_ne HO0_0.out BK167.out (by decide)) e_) hs_)); have n2_ := Aside0.mk (Kept.then_ (S := (fun k_ => P0_0_ k_)) (by repeat (first | (with_reducible first | exact HK.out | apply Kept.alloc | apply Kept.drewN | apply Kept.drew | refine Kept.setCell ?_ (.inr GW167.out) _) | exact HK.out)) hkp (fun k_ hs_ => (fun e_ => (HO0_0.out.1 k_ e_.symm)) hs_)); have n3_ := Aside0.mk (hb); clear HO0_0; clear BK167; clear HK; clear HB; have HO0_0 := n0_; have BK167 := n1_; have HK := n2_; have HB := n3_; clear n0_ n1_ n2_ n3_; (try clear hb); (try clear hkp); (try clear hy0); have hcz9_0 := bc0 BK167.out; have hcz9_1 := bc1 BK167.out; have hfz9_0 := blk_frozen BK167.out 0; have hfz9_1 := blk_frozen BK167.out 1) | ((with_reducible refine gate_callee (f := 46) rfl ?_); refine goesL_ (some 12) rfl rfl Try.func46 (by kernel_rfl) rfl #[.slice A0_1 l0_1.length c0_1, .int .i64 t168] rfl gZ ?_; (with_reducible refine (laws_markPipeS.calls k _ _ l0_1 t168 t170 _ ?side1 ?side2 A4.out).mono ?_); (case side1 => exact Kd.C_kept_now HR0_1.out (by repeat (first | (with_reducible first | exact HK.out | apply Kept.alloc | apply Kept.drewN | apply Kept.drew | refine Kept.setCell ?_ (.inr GW167.out) _) | exact HK.out))); (case side2 => exact HC0_1.out); rintro e w10 ⟨rfl, hb⟩; refine ⟨_, rfl, ?_⟩; have n0_ := Aside0.mk (Kd.R_below (Kd.rZ HO0_0.out) hb); have n1_ := Aside0.mk (blk_below (g := gb167) (o := .cells #[.slice Ao5 l0_0.length co5, .slice A0_1 l0_1.length c0_1] 25 (0, 0)) (kZ BK167.out) hb); have n2_ := Aside0.mk (Kept.below (S := (fun k_ => P0_0_ k_)) (by repeat (first | (with_reducible first | exact HK.out | apply Kept.alloc | apply Kept.drewN | apply Kept.drew | refine Kept.setCell ?_ (.inr GW167.out) _) | exact HK.out)) hb); have n3_ := Aside0.mk (below_step bZ hb); clear HO0_0; clear BK167; clear HK; clear HB; have HO0_0 := n0_; have BK167 := n1_; have HK := n2_; have HB := n3_; clear n0_ n1_ n2_ n3_; (try clear hb); (try clear hb2); (try clear hk); (try clear hi)))
 go_ret
 exact ⟨eZ, Kd.rZ HO0_0.out, bZ, by repeat (first | (with_reducible first | exact HK.out | apply Kept.alloc | apply Kept.drewN | apply Kept.drew | refine Kept.setCell ?_ (.inr GW167.out) _) | exact HK.out)⟩
def laws_markValveS.f (k : Nat) (l0 : List (S63)) (a1 : Int) : Option (Int) := if l0.length = 0 then some a1 else none
set_option maxHeartbeats 1000000 in
theorem laws_markValveS.calls (k : Nat) (A0 : Option Addr) (c0 : Nat) (l0 : List (S63)) (a1 : Int) (r : Int) (w : World) (hr0 : Kd.C k63 w A0 l0.length l0) (hc0 : l0.length ≤ c0) (h : laws_markValveS.f k l0 a1 = some r) :
  Calls Try.prog 22 #[.slice A0 l0.length c0, .int .i64 a1] w fun e w' => e = .returned (.int .i64 r) ∧ Below w.heap.size w w' := by
 unfold laws_markValveS.f at h
 by_cases hl : l0.length = 0
 ·rw [if_pos hl] at h
  simp only [Option.some.injEq] at h
  subst h
  rw [hl]
  clear hr0 hc0
  go_enter Try.func22, Try.ntmps22
  go_wp2
  go_loopw [1, 5] (fun v1 v5 wr => v1 = .int .i64 a1 ∧ v5 = .int .i64 0 ∧ wr = w) (fun _ _ _ => 0)
  case atStart => exact ⟨rfl, rfl, rfl⟩
  case round =>
   obtain ⟨rfl, rfl, rfl⟩ := hrel
   go_wp2
   go_ret
   exact ⟨rfl, Below.refl _ _⟩
 ·rw [if_neg hl] at h
  exact absurd h (by simp)
def laws_markPumpS.f (k : Nat) (l0 : List (S67)) (a1 : Int) : Option (Int) := if l0.length = 0 then some a1 else none
set_option maxHeartbeats 1000000 in
theorem laws_markPumpS.calls (k : Nat) (A0 : Option Addr) (c0 : Nat) (l0 : List (S67)) (a1 : Int) (r : Int) (w : World) (hr0 : Kd.C k67 w A0 l0.length l0) (hc0 : l0.length ≤ c0) (h : laws_markPumpS.f k l0 a1 = some r) :
  Calls Try.prog 23 #[.slice A0 l0.length c0, .int .i64 a1] w fun e w' => e = .returned (.int .i64 r) ∧ Below w.heap.size w w' := by
 unfold laws_markPumpS.f at h
 by_cases hl : l0.length = 0
 ·rw [if_pos hl] at h
  simp only [Option.some.injEq] at h
  subst h
  rw [hl]
  clear hr0 hc0
  go_enter Try.func23, Try.ntmps23
  go_wp2
  go_loopw [1, 5] (fun v1 v5 wr => v1 = .int .i64 a1 ∧ v5 = .int .i64 0 ∧ wr = w) (fun _ _ _ => 0)
  case atStart => exact ⟨rfl, rfl, rfl⟩
  case round =>
   obtain ⟨rfl, rfl, rfl⟩ := hrel
   go_wp2
   go_ret
   exact ⟨rfl, Below.refl _ _⟩
 ·rw [if_neg hl] at h
  exact absurd h (by simp)
end Go.Proofs.Ytckhjpjcimjclaa.XR
end

section
namespace Go.Proofs.Ytckhjpjcimjclaa.XR
open Go.RowKit Go.Proofs.YtckhjpjcimjclaaW.PrintWords Go.Proofs.YtckhjpjcimjclaaW.PrintLast Go.Proofs.YtckhjpjcimjclaaW.PrintMore
attribute [local go_sem] run_eql_slice_nil binOp_string_gtr' binOp_string_leq' binOp_string_geq' max2_int min2_int max_two min_two max_three min_three max_four min_four   -- for this text's walks alone
set_option linter.unusedVariables false
set_option linter.unusedSimpArgs false
def laws_markSubstationS.f (k : Nat) (l0 : List (S70)) (a1 : Int) : Option (Int) := if l0.length = 0 then some a1 else none
set_option maxHeartbeats 1000000 in
theorem laws_markSubstationS.calls (k : Nat) (A0 : Option Addr) (c0 : Nat) (l0 : List (S70)) (a1 : Int) (r : Int) (w : World) (hr0 : Kd.C k70 w A0 l0.length l0) (hc0 : l0.length ≤ c0) (h : laws_markSubstationS.f k l0 a1 = some r) :
  Calls Try.prog 24 #[.slice A0 l0.length c0, .int .i64 a1] w fun e w' => e = .returned (.int .i64 r) ∧ Below w.heap.size w w' := by
 unfold laws_markSubstationS.f at h
 by_cases hl : l0.length = 0
 ·rw [if_pos hl] at h
  simp only [Option.some.injEq] at h
  subst h
  rw [hl]
  clear hr0 hc0
  go_enter Try.func24, Try.ntmps24
  go_wp2
  go_loopw [1, 5] (fun v1 v5 wr => v1 = .int .i64 a1 ∧ v5 = .int .i64 0 ∧ wr = w) (fun _ _ _ => 0)
  case atStart => exact ⟨rfl, rfl, rfl⟩
  case round =>
   obtain ⟨rfl, rfl, rfl⟩ := hrel
   go_wp2
   go_ret
   exact ⟨rfl, Below.refl _ _⟩
 ·rw [if_neg hl] at h
  exact absurd h (by simp)
def laws_markFuelS.f (k : Nat) (l0 : List (S73)) (a1 : Int) : Option (Int) := if l0.length = 0 then some a1 else none
set_option maxHeartbeats 1000000 in
theorem laws_markFuelS.calls (k : Nat) (A0 : Option Addr) (c0 : Nat) (l0 : List (S73)) (a1 : Int) (r : Int) (w : World) (hr0 : Kd.C k73 w A0 l0.length l0) (hc0 : l0.length ≤ c0) (h : laws_markFuelS.f k l0 a1 = some r) :
  Calls Try.prog 25 #[.slice A0 l0.length c0, .int .i64 a1] w fun e w' => e = .returned (.int .i64 r) ∧ Below w.heap.size w w' := by
 unfold laws_markFuelS.f at h
 by_cases hl : l0.length = 0
 ·rw [if_pos hl] at h
  simp only [Option.some.injEq] at h
  subst h
  rw [hl]
  clear hr0 hc0
  go_enter Try.func25, Try.ntmps25
  go_wp2
  go_loopw [1, 5] (fun v1 v5 wr => v1 = .int .i64 a1 ∧ v5 = .int .i64 0 ∧ wr = w) (fun _ _ _ => 0)
  case atStart => exact ⟨rfl, rfl, rfl⟩
  case round =>
   obtain ⟨rfl, rfl, rfl⟩ := hrel
   go_wp2
   go_ret
   exact ⟨rfl, Below.refl _ _⟩
 ·rw [if_neg hl] at h
  exact absurd h (by simp)
def laws_markRepairS.f (k : Nat) (l0 : List (S76)) (a1 : Int) : Option (Int) := if l0.length = 0 then some a1 else none
set_option maxHeartbeats 1000000 in
theorem laws_markRepairS.calls (k : Nat) (A0 : Option Addr) (c0 : Nat) (l0 : List (S76)) (a1 : Int) (r : Int) (w : World) (hr0 : Kd.C k76 w A0 l0.length l0) (hc0 : l0.length ≤ c0) (h : laws_markRepairS.f k l0 a1 = some r) :
  Calls Try.prog 26 #[.slice A0 l0.length c0, .int .i64 a1] w fun e w' => e = .returned (.int .i64 r) ∧ Below w.heap.size w w' := by
 unfold laws_markRepairS.f at h
 by_cases hl : l0.length = 0
 ·rw [if_pos hl] at h
  simp only [Option.some.injEq] at h
  subst h
  rw [hl]
  clear hr0 hc0
  go_enter Try.func26, Try.ntmps26
  go_wp2
  go_loopw [1, 5] (fun v1 v5 wr => v1 = .int .i64 a1 ∧ v5 = .int .i64 0 ∧ wr = w) (fun _ _ _ => 0)
  case atStart => exact ⟨rfl, rfl, rfl⟩
  case round =>
   obtain ⟨rfl, rfl, rfl⟩ := hrel
   go_wp2
   go_ret
   exact ⟨rfl, Below.refl _ _⟩
 ·rw [if_neg hl] at h
  exact absurd h (by simp)
def laws_markTenantS.f (k : Nat) (l0 : List (S79)) (a1 : Int) : Option (Int) := if l0.length = 0 then some a1 else none
set_option maxHeartbeats 1000000 in
theorem laws_markTenantS.calls (k : Nat) (A0 : Option Addr) (c0 : Nat) (l0 : List (S79)) (a1 : Int) (r : Int) (w : World) (hr0 : Kd.C k79 w A0 l0.length l0) (hc0 : l0.length ≤ c0) (h : laws_markTenantS.f k l0 a1 = some r) :
  Calls Try.prog 27 #[.slice A0 l0.length c0, .int .i64 a1] w fun e w' => e = .returned (.int .i64 r) ∧ Below w.heap.size w w' := by
 unfold laws_markTenantS.f at h
 by_cases hl : l0.length = 0
 ·rw [if_pos hl] at h
  simp only [Option.some.injEq] at h
  subst h
  rw [hl]
  clear hr0 hc0
  go_enter Try.func27, Try.ntmps27
  go_wp2
  go_loopw [1, 5] (fun v1 v5 wr => v1 = .int .i64 a1 ∧ v5 = .int .i64 0 ∧ wr = w) (fun _ _ _ => 0)
  case atStart => exact ⟨rfl, rfl, rfl⟩
  case round =>
   obtain ⟨rfl, rfl, rfl⟩ := hrel
   go_wp2
   go_ret
   exact ⟨rfl, Below.refl _ _⟩
 ·rw [if_neg hl] at h
  exact absurd h (by simp)
def laws_markDutyS.f (k : Nat) (l0 : List (S82)) (a1 : Int) : Option (Int) := if l0.length = 0 then some a1 else none
set_option maxHeartbeats 1000000 in
theorem laws_markDutyS.calls (k : Nat) (A0 : Option Addr) (c0 : Nat) (l0 : List (S82)) (a1 : Int) (r : Int) (w : World) (hr0 : Kd.C k82 w A0 l0.length l0) (hc0 : l0.length ≤ c0) (h : laws_markDutyS.f k l0 a1 = some r) :
  Calls Try.prog 28 #[.slice A0 l0.length c0, .int .i64 a1] w fun e w' => e = .returned (.int .i64 r) ∧ Below w.heap.size w w' := by
 unfold laws_markDutyS.f at h
 by_cases hl : l0.length = 0
 ·rw [if_pos hl] at h
  simp only [Option.some.injEq] at h
  subst h
  rw [hl]
  clear hr0 hc0
  go_enter Try.func28, Try.ntmps28
  go_wp2
  go_loopw [1, 5] (fun v1 v5 wr => v1 = .int .i64 a1 ∧ v5 = .int .i64 0 ∧ wr = w) (fun _ _ _ => 0)
  case atStart => exact ⟨rfl, rfl, rfl⟩
  case round =>
   obtain ⟨rfl, rfl, rfl⟩ := hrel
   go_wp2
   go_ret
   exact ⟨rfl, Below.refl _ _⟩
 ·rw [if_neg hl] at h
  exact absurd h (by simp)
def laws_markDesk.f (k : Nat) (l0_0 : List Int) (l0_1 : List (S88)) (l0_2 : List Int) (l0_3 : List (S63)) (l0_4 : List (S67)) (l0_5 : List (S70)) (a0_6 : Int) (a0_7 : Int) (a0_8 : Int) (l0_9 : List (S73)) (l0_10 : List (S76)) (l0_11 : List (S79)) (l0_12 : List (S82)) (a1 : Int) : Option (Int × List Int × List Int) := (laws_markNetwork.f k l0_0 l0_1 a1).bind fun bt172 => ((laws_markInt64S.f k l0_2 bt172.1).bind fun bt174 => ((laws_markValveS.f k l0_3 bt174.1).bind fun t176 => ((laws_markPumpS.f k l0_4 t176).bind fun t177 => ((laws_markSubstationS.f k l0_5 t177).bind fun t178 => ((laws_markFuelS.f k l0_9 t178).bind fun t179 => ((laws_markRepairS.f k l0_10 t179).bind fun t180 => ((laws_markTenantS.f k l0_11 t180).bind fun t181 => ((laws_markDutyS.f k l0_12 t181).bind fun t182 => (some (t182, bt172.2, bt174.2))))))))))
set_option maxHeartbeats 8000000 in
set_option maxRecDepth 100000 in
theorem laws_markDesk.calls (k : Nat) (P0_0_ : Nat → Prop) (u9000_ : Value) (l0_0 : List Int) (A0_1 : Option Addr) (c0_1 : Nat) (l0_1 : List (S88)) (P0_2_ : Nat → Prop) (u9001_ : Value) (l0_2 : List Int) (A0_3 : Option Addr) (c0_3 : Nat) (l0_3 : List (S63)) (A0_4 : Option Addr) (c0_4 : Nat) (l0_4 : List (S67)) (A0_5 : Option Addr) (c0_5 : Nat) (l0_5 : List (S70)) (a0_6 : Int) (a0_7 : Int) (a0_8 : Int) (A0_9 : Option Addr) (c0_9 : Nat) (l0_9 : List (S73)) (A0_10 : Option Addr) (c0_10 : Nat) (l0_10 : List (S76)) (A0_11 : Option Addr) (c0_11 : Nat) (l0_11 : List (S79)) (A0_12 : Option Addr) (c0_12 : Nat) (l0_12 : List (S82)) (a1 : Int) (r1 : Int) (r2 : List Int) (r3 : List Int) (w0 w : World) (hB : Below w0.heap.size w0 w) (ho0_0 : Kd.R (Kd.int .i64) 2 w w0.heap.size P0_0_ u9000_ l0_0) (hp0_0_0_2 : ∀ k_, P0_0_ k_ → ¬ P0_2_ k_) (hr0_1 : ∀ W_, Kept w W_ (fun k_ => P0_0_ k_ ∨ P0_2_ k_) → Kd.C k88 W_ A0_1 l0_1.length l0_1) (hc0_1 : l0_1.length ≤ c0_1) (ho0_2 : Kd.R (Kd.int .i64) 2 w w0.heap.size P0_2_ u9001_ l0_2) (hp0_2_0_0 : ∀ k_, P0_2_ k_ → ¬ P0_0_ k_) (hr0_3 : ∀ W_, Kept w W_ (fun k_ => P0_0_ k_ ∨ P0_2_ k_) → Kd.C k63 W_ A0_3 l0_3.length l0_3) (hc0_3 : l0_3.length ≤ c0_3) (hr0_4 : ∀ W_, Kept w W_ (fun k_ => P0_0_ k_ ∨ P0_2_ k_) → Kd.C k67 W_ A0_4 l0_4.length l0_4) (hc0_4 : l0_4.length ≤ c0_4) (hr0_5 : ∀ W_, Kept w W_ (fun k_ => P0_0_ k_ ∨ P0_2_ k_) → Kd.C k70 W_ A0_5 l0_5.length l0_5) (hc0_5 : l0_5.length ≤ c0_5) (hr0_9 : ∀ W_, Kept w W_ (fun k_ => P0_0_ k_ ∨ P0_2_ k_) → Kd.C k73 W_ A0_9 l0_9.length l0_9) (hc0_9 : l0_9.length ≤ c0_9) (hr0_10 : ∀ W_, Kept w W_ (fun k_ => P0_0_ k_ ∨ P0_2_ k_) → Kd.C k76 W_ A0_10 l0_10.length l0_10) (hc0_10 : l0_10.length ≤ c0_10) (hr0_11 : ∀ W_, Kept w W_ (fun k_ => P0_0_ k_ ∨ P0_2_ k_) → Kd.C k79 W_ A0_11 l0_11.length l0_11) (hc0_11 : l0_11.length ≤ c0_11) (hr0_12 : ∀ W_, Kept w W_ (fun k_ => P0_0_ k_ ∨ P0_2_ k_) → Kd.C k82 W_ A0_12 l0_12.length l0_12) (hc0_12 : l0_12.length ≤ c0_12) (h : laws_markDesk.f k l0_0 l0_1 l0_2 l0_3 l0_4 l0_5 a0_6 a0_7 a0_8 l0_9 l0_10 l0_11 l0_12 a1 = some (r1, r2, r3)) :
  Calls Try.prog 7 #[.agg #[u9000_, .slice A0_1 l0_1.length c0_1, u9001_, .slice A0_3 l0_3.length c0_3, .slice A0_4 l0_4.length c0_4, .slice A0_5 l0_5.length c0_5, .int .i64 a0_6, .int .i64 a0_7, .int .i64 a0_8, .slice A0_9 l0_9.length c0_9, .slice A0_10 l0_10.length c0_10, .slice A0_11 l0_11.length c0_11, .slice A0_12 l0_12.length c0_12], .int .i64 a1] w fun e w' => e = .returned (.int .i64 r1) ∧ Kd.R (Kd.int .i64) 2 w' w0.heap.size (fun k_ => ((P0_0_ k_ ∨ P0_2_ k_) ∨ w.heap.size ≤ k_)) u9000_ r2 ∧ Kd.R (Kd.int .i64) 2 w' w0.heap.size (fun k_ => ((P0_0_ k_ ∨ P0_2_ k_) ∨ w.heap.size ≤ k_)) u9001_ r3 ∧ Below w0.heap.size w0 w' ∧ Kept w w' (fun k_ => P0_0_ k_ ∨ P0_2_ k_) := by
 have hu36 := Try.underlying36
 have hu25 := Try.underlying25
 have HO0_0 := Aside0.mk (show Kd.R (Kd.int .i64) 2 w w0.heap.size (fun k_ => ((P0_0_ k_ ∨ P0_2_ k_) ∨ w.heap.size ≤ k_) ∧ some k_ ≠ (u9001_ : Value).ownBlock) u9000_ l0_0 from Kd.R_mono ho0_0 (fun k_ hk => ⟨(.inl (.inl hk)), fun e_ => hp0_0_0_2 k_ hk (ho0_2.1 k_ e_.symm)⟩))
 have HR0_1 := Aside0.mk hr0_1
 have HC0_1 := Aside0.mk hc0_1
 clear hr0_1 hc0_1
 have HO0_2 := Aside0.mk (show Kd.R (Kd.int .i64) 2 w w0.heap.size (fun k_ => ((P0_0_ k_ ∨ P0_2_ k_) ∨ w.heap.size ≤ k_) ∧ some k_ ≠ (u9000_ : Value).ownBlock) u9001_ l0_2 from Kd.R_mono ho0_2 (fun k_ hk => ⟨(.inl (.inr hk)), fun e_ => hp0_2_0_0 k_ hk (ho0_0.1 k_ e_.symm)⟩))
 have HR0_3 := Aside0.mk hr0_3
 have HC0_3 := Aside0.mk hc0_3
 clear hr0_3 hc0_3
 have HR0_4 := Aside0.mk hr0_4
 have HC0_4 := Aside0.mk hc0_4
 clear hr0_4 hc0_4
 have HR0_5 := Aside0.mk hr0_5
 have HC0_5 := Aside0.mk hc0_5
 clear hr0_5 hc0_5
 have HR0_9 := Aside0.mk hr0_9
 have HC0_9 := Aside0.mk hc0_9
 clear hr0_9 hc0_9
 have HR0_10 := Aside0.mk hr0_10
 have HC0_10 := Aside0.mk hc0_10
 clear hr0_10 hc0_10
 have HR0_11 := Aside0.mk hr0_11
 have HC0_11 := Aside0.mk hc0_11
 clear hr0_11 hc0_11
 have HR0_12 := Aside0.mk hr0_12
 have HC0_12 := Aside0.mk hc0_12
 clear hr0_12 hc0_12
 have HK := Aside0.mk (Kept.refl w (fun k_ => P0_0_ k_ ∨ P0_2_ k_))
 have HW0 := Aside0.mk hB.size
 have HB := Aside0.mk hB
 clear hB
 have H : ((laws_markNetwork.f k l0_0 l0_1 a1).bind fun bt172 => ((laws_markInt64S.f k l0_2 bt172.1).bind fun bt174 => ((laws_markValveS.f k l0_3 bt174.1).bind fun t176 => ((laws_markPumpS.f k l0_4 t176).bind fun t177 => ((laws_markSubstationS.f k l0_5 t177).bind fun t178 => ((laws_markFuelS.f k l0_9 t178).bind fun t179 => ((laws_markRepairS.f k l0_10 t179).bind fun t180 => ((laws_markTenantS.f k l0_11 t180).bind fun t181 => ((laws_markDutyS.f k l0_12 t181).bind fun t182 => (some (t182, bt172.2, bt174.2))))))))))) = some (r1, r2, r3) := h
 clear h
 replace H := Option.bind_eq_some_iff.mp H
 obtain ⟨⟨t172, t173⟩, A30, H⟩ := H
 replace H : ((laws_markInt64S.f k l0_2 t172).bind fun bt174 => ((laws_markValveS.f k l0_3 bt174.1).bind fun t176 => ((laws_markPumpS.f k l0_4 t176).bind fun t177 => ((laws_markSubstationS.f k l0_5 t177).bind fun t178 => ((laws_markFuelS.f k l0_9 t178).bind fun t179 => ((laws_markRepairS.f k l0_10 t179).bind fun t180 => ((laws_markTenantS.f k l0_11 t180).bind fun t181 => ((laws_markDutyS.f k l0_12 t181).bind fun t182 => (some (t182, t173, bt174.2)))))))))) = some (r1, r2, r3) := H
 have A3 := Aside0.mk A30
 clear A30
 replace H := Option.bind_eq_some_iff.mp H
 obtain ⟨⟨t174, t175⟩, A40, H⟩ := H
 replace H : ((laws_markValveS.f k l0_3 t174).bind fun t176 => ((laws_markPumpS.f k l0_4 t176).bind fun t177 => ((laws_markSubstationS.f k l0_5 t177).bind fun t178 => ((laws_markFuelS.f k l0_9 t178).bind fun t179 => ((laws_markRepairS.f k l0_10 t179).bind fun t180 => ((laws_markTenantS.f k l0_11 t180).bind fun t181 => ((laws_markDutyS.f k l0_12 t181).bind fun t182 => (some (t182, t173, t175))))))))) = some (r1, r2, r3) := H
 have A4 := Aside0.mk A40
 clear A40
 replace H := Option.bind_eq_some_iff.mp H
 obtain ⟨t176, A50, H⟩ := H
 replace H : ((laws_markPumpS.f k l0_4 t176).bind fun t177 => ((laws_markSubstationS.f k l0_5 t177).bind fun t178 => ((laws_markFuelS.f k l0_9 t178).bind fun t179 => ((laws_markRepairS.f k l0_10 t179).bind fun t180 => ((laws_markTenantS.f k l0_11 t180).bind fun t181 => ((laws_markDutyS.f k l0_12 t181).bind fun t182 => (some (t182, t173, t175)))))))) = some (r1, r2, r3) := H
 have A5 := Aside0.mk A50
 clear A50
 replace H := Option.bind_eq_some_iff.mp H
 obtain ⟨t177, A60, H⟩ := H
 replace H : ((laws_markSubstationS.f k l0_5 t177).bind fun t178 => ((laws_markFuelS.f k l0_9 t178).bind fun t179 => ((laws_markRepairS.f k l0_10 t179).bind fun t180 => ((laws_markTenantS.f k l0_11 t180).bind fun t181 => ((laws_markDutyS.f k l0_12 t181).bind fun t182 => (some (t182, t173, t175))))))) = some (r1, r2, r3) := H
 have A6 := Aside0.mk A60
 clear A60
 replace H := Option.bind_eq_some_iff.mp H
 obtain ⟨t178, A70, H⟩ := H
 replace H : ((laws_markFuelS.f k l0_9 t178).bind fun t179 => ((laws_markRepairS.f k l0_10 t179).bind fun t180 => ((laws_markTenantS.f k l0_11 t180).bind fun t181 => ((laws_markDutyS.f k l0_12 t181).bind fun t182 => (some (t182, t173, t175)))))) = some (r1, r2, r3) := H
 have A7 := Aside0.mk A70
 clear A70
 replace H := Option.bind_eq_some_iff.mp H
 obtain ⟨t179, A80, H⟩ := H
 replace H : ((laws_markRepairS.f k l0_10 t179).bind fun t180 => ((laws_markTenantS.f k l0_11 t180).bind fun t181 => ((laws_markDutyS.f k l0_12 t181).bind fun t182 => (some (t182, t173, t175))))) = some (r1, r2, r3) := H
 have A8 := Aside0.mk A80
 clear A80
 replace H := Option.bind_eq_some_iff.mp H
 obtain ⟨t180, A90, H⟩ := H
 replace H : ((laws_markTenantS.f k l0_11 t180).bind fun t181 => ((laws_markDutyS.f k l0_12 t181).bind fun t182 => (some (t182, t173, t175)))) = some (r1, r2, r3) := H
 have A9 := Aside0.mk A90
 clear A90
 replace H := Option.bind_eq_some_iff.mp H
 obtain ⟨t181, A100, H⟩ := H
 replace H : ((laws_markDutyS.f k l0_12 t181).bind fun t182 => (some (t182, t173, t175))) = some (r1, r2, r3) := H
 have A10 := Aside0.mk A100
 clear A100
 replace H := Option.bind_eq_some_iff.mp H
 obtain ⟨t182, A110, H⟩ := H
 replace H : (some (t182, t173, t175)) = some (r1, r2, r3) := H
 have A11 := Aside0.mk A110
 clear A110
 simp only [Option.some.injEq, Prod.mk.injEq] at H
 obtain ⟨rfl, rfl, rfl⟩ := H
 obtain ⟨Ao12, co12, eo12⟩ := Kd.R_slice HO0_0.out
 subst eo12
 obtain ⟨Ao13, co13, eo13⟩ := Kd.R_slice HO0_2.out
 subst eo13
 go_enter Try.func7, Try.ntmps7
 go_wp2_with (first | ((with_reducible refine gate_dst (N := 2) rfl ?_); refine boxZ 2 #[.slice Ao12 l0_0.length co12, .slice A0_1 l0_1.length c0_1, .slice Ao13 l0_2.length co13, .slice A0_3 l0_3.length c0_3, .slice A0_4 l0_4.length c0_4, .slice A0_5 l0_5.length c0_5, .int .i64 a0_6, .int .i64 a0_7, .int .i64 a0_8, .slice A0_9 l0_9.length c0_9, .slice A0_10 l0_10.length c0_10, .slice A0_11 l0_11.length c0_11, .slice A0_12 l0_12.length c0_12] 36 rfl rfl ?_; intro gb171 hg w14 hbox hb; have n0_ := Aside0.mk (Kd.R_below (Kd.rZ HO0_0.out) hb); have n1_ := Aside0.mk (Kd.R_below (Kd.rZ HO0_2.out) hb); have n2_ := Aside0.mk (Kept.below (S := (fun k_ => P0_0_ k_ ∨ P0_2_ k_)) (by repeat (first | (with_reducible first | exact HK.out | apply Kept.alloc | apply Kept.drewN | apply Kept.drew) | exact HK.out)) hb); have n3_ := Aside0.mk (below_step bZ hb); have n4_ := Aside0.mk (hbox); have n5_ := Aside0.mk ((by rw [hg]; exact (by first | exact HK.out.1 | exact (show Kept w _ (fun k_ => P0_0_ k_ ∨ P0_2_ k_) from by repeat (first | (with_reducible first | exact HK.out | apply Kept.alloc | apply Kept.drewN | apply Kept.drew) | exact HK.out)).1) : w.heap.size ≤ gb171)); have n6_ := Aside0.mk ((by rw [hg]; exact bsZ : w0.heap.size ≤ gb171)); clear HO0_0; clear HO0_2; clear HK; clear HB; have HO0_0 := n0_; have HO0_2 := n1_; have HK := n2_; have HB := n3_; have BK171 := n4_; have GW171 := n5_; have GE171 := n6_; clear n0_ n1_ n2_ n3_ n4_ n5_ n6_; clear hb hbox hg; have hcz15_0 := bc0 BK171.out; have hcz15_1 := bc1 BK171.out; have hcz15_2 := bc2 BK171.out; have hcz15_3 := bc3 BK171.out; have hcz15_4 := bc4 BK171.out; have hcz15_5 := bc5 BK171.out; have hcz15_6 := bc6 BK171.out; have hcz15_7 := bc7 BK171.out; have hcz15_8 := bc8 BK171.out; have hcz15_9 := bc9 BK171.out; have hcz15_10 : w14.cell? ⟨gb171, 10, none⟩ = some (.slice A0_10 l0_10.length c0_10) := (blk_cell BK171.out 10).trans rfl; have hcz15_11 : w14.cell? ⟨gb171, 11, none⟩ = some (.slice A0_11 l0_11.length c0_11) := (blk_cell BK171.out 11).trans rfl; have hcz15_12 : w14.cell? ⟨gb171, 12, none⟩ = some (.slice A0_12 l0_12.length c0_12) := (blk_cell BK171.out 12).trans rfl; have hfz15_0 := blk_frozen BK171.out 0; have hfz15_1 := blk_frozen BK171.out 1; have hfz15_2 := blk_frozen BK171.out 2; have hfz15_3 := blk_frozen BK171.out 3; have hfz15_4 := blk_frozen BK171.out 4; have hfz15_5 := blk_frozen BK171.out 5; have hfz15_6 := blk_frozen BK171.out 6; have hfz15_7 := blk_frozen BK171.out 7; have hfz15_8 := blk_frozen BK171.out 8; have hfz15_9 := blk_frozen BK171.out 9; have hfz15_10 := blk_frozen BK171.out 10; have hfz15_11 := blk_frozen BK171.out 11; have hfz15_12 := blk_frozen BK171.out 12) | ((with_reducible refine gate_callee (f := 20) rfl ?_); refine goesL_ (some 8) rfl rfl Try.func20 (by kernel_rfl) rfl #[.agg #[.slice Ao12 l0_0.length co12, .slice A0_1 l0_1.length c0_1], .int .i64 a1] rfl gZ ?_; (with_reducible refine (laws_markNetwork.calls k (fun k_ => some k_ = (.slice Ao12 l0_0.length co12 : Value).ownBlock) (.slice Ao12 l0_0.length co12) l0_0 _ _ l0_1 a1 t172 t173 w0 _ ?side1 ?side2 ?side3 ?side4 A3.out).mono ?_); (case side1 => repeat (first | (with_reducible first | exact HB.out | apply below_alloc | apply pw_below_drewN | apply below_drew1 | refine below_set ?_ GE171.out) | exact HB.out)); (case side2 => exact Kd.R_tight rfl HO0_0.out); (case side3 => exact Kd.C_kept_call HR0_1.out (by repeat (first | (with_reducible first | exact HK.out | apply Kept.alloc | apply Kept.drewN | apply Kept.drew | refine Kept.setCell ?_ (.inr GW171.out) _) | exact HK.out)) (fun k_ hs_ => (fun e_ => (HO0_0.out.1 k_ e_.symm).1) hs_)); (case side4 => exact HC0_1.out); rintro e w16 ⟨rfl, hy0, hb, hkp⟩; refine ⟨_, rfl, ?_⟩; have n0_ := Aside0.mk (Kd.R_reok rfl hy0 (fun k_ e_ => HO0_0.out.1 k_ e_)); have n1_ := Aside0.mk (Kd.R_mono (ok' := fun k_ => ((P0_0_ k_ ∨ P0_2_ k_) ∨ w.heap.size ≤ k_) ∧ some k_ ≠ (.slice Ao12 l0_0.length co12 : Value).ownBlock) (Kd.R_keptB (HO0_2.out) hkp (fun k_ hk_ hs_ => (hk_.2) hs_)) (fun k_ hk_ => ⟨hk_.1.1, hk_.1.2⟩)); have n2_ := Aside0.mk (blk_kept (kZ BK171.out) hkp (fun hs_ => (fun e_ => (Kd.R_ne HO0_0.out BK171.out (by decide)) e_) hs_)); have n3_ := Aside0.mk (Kept.then_ (S := (fun k_ => P0_0_ k_ ∨ P0_2_ k_)) (by repeat (first | (with_reducible first | exact HK.out | apply Kept.alloc | apply Kept.drewN | apply Kept.drew | refine Kept.setCell ?_ (.inr GW171.out) _) | exact HK.out)) hkp (fun k_ hs_ => (fun e_ => (HO0_0.out.1 k_ e_.symm).1) hs_)); have n4_ := Aside0.mk (hb); clear HO0_0; clear HO0_2; clear BK171; clear HK; clear HB; have HO0_0 := n0_; have HO0_2 := n1_; have BK171 := n2_; have HK := n3_; have HB := n4_; clear n0_ n1_ n2_ n3_ n4_; (try clear hb); (try clear hkp); (try clear hy0); have hcz17_0 := bc0 BK171.out; have hcz17_1 := bc1 BK171.out; have hcz17_2 := bc2 BK171.out; have hcz17_3 := bc3 BK171.out; have hcz17_4 := bc4 BK171.out; have hcz17_5 := bc5 BK171.out; have hcz17_6 := bc6 BK171.out; have hcz17_7 := bc7 BK171.out; have hcz17_8 := bc8 BK171.out; have hcz17_9 := bc9 BK171.out; have hcz17_10 : w16.cell? ⟨gb171, 10, none⟩ = some (.slice A0_10 l0_10.length c0_10) := (blk_cell BK171.out 10).trans rfl; have hcz17_11 : w16.cell? ⟨gb171, 11, none⟩ = some (.slice A0_11 l0_11.length c0_11) := (blk_cell BK171.out 11).trans rfl; have hcz17_12 : w16.cell? ⟨gb171, 12, none⟩ = some (.slice A0_12 l0_12.length c0_12) := (blk_cell BK171.out 12).trans rfl; have hfz17_0 := blk_frozen BK171.out 0; have hfz17_1 := blk_frozen BK171.out 1; have hfz17_2 := blk_frozen BK171.out 2; have hfz17_3 := blk_frozen BK171.out 3; have hfz17_4 := blk_frozen BK171.out 4; have hfz17_5 := blk_frozen BK171.out 5; have hfz17_6 := blk_frozen BK171.out 6; have hfz17_7 := blk_frozen BK171.out 7; have hfz17_8 := blk_frozen BK171.out 8; have hfz17_9 := blk_frozen BK171.out 9; have hfz17_10 := blk_frozen BK171.out 10; have hfz17_11 := blk_frozen BK171.out 11; have hfz17_12 := blk_frozen BK171.out 12) | ((with_reducible refine gate_callee (f := 21) rfl ?_); refine goesL_ (some 12) rfl rfl Try.func21 (by kernel_rfl) rfl #[.slice Ao13 l0_2.length co13, .int .i64 t172] rfl gZ ?_; (with_reducible refine (laws_markInt64S.calls k (fun k_ => some k_ = (.slice Ao13 l0_2.length co13 : Value).ownBlock) (.slice Ao13 l0_2.length co13) l0_2 t172 t174 t175 w0 _ ?side1 ?side2 A4.out).mono ?_); (case side1 => repeat (first | (with_reducible first | exact HB.out | apply below_alloc | apply pw_below_drewN | apply below_drew1 | refine below_set ?_ GE171.out) | exact HB.out)); (case side2 => exact Kd.R_tight rfl HO0_2.out); rintro e w18 ⟨rfl, hy0, hb, hkp⟩; refine ⟨_, rfl, ?_⟩; have n0_ := Aside0.mk (Kd.R_mono (ok' := fun k_ => ((P0_0_ k_ ∨ P0_2_ k_) ∨ w.heap.size ≤ k_) ∧ some k_ ≠ (.slice Ao13 l0_2.length co13 : Value).ownBlock) (Kd.R_keptB (HO0_0.out) hkp (fun k_ hk_ hs_ => (hk_.2) hs_)) (fun k_ hk_ => ⟨hk_.1.1, hk_.1.2⟩)); have n1_ := Aside0.mk (Kd.R_reok rfl hy0 (fun k_ e_ => HO0_2.out.1 k_ e_)); have n2_ := Aside0.mk (blk_kept (kZ BK171.out) hkp (fun hs_ => (fun e_ => (Kd.R_ne HO0_2.out BK171.out (by decide)) e_) hs_)); have n3_ := Aside0.mk (Kept.then_ (S := (fun k_ => P0_0_ k_ ∨ P0_2_ k_)) (by repeat (first | (with_reducible first | exact HK.out | apply Kept.alloc | apply Kept.drewN | apply Kept.drew | refine Kept.setCell ?_ (.inr GW171.out) _) | exact HK.out)) hkp (fun k_ hs_ => (fun e_ => (HO0_2.out.1 k_ e_.symm).1) hs_)); have n4_ := Aside0.mk (hb); clear HO0_0; clear HO0_2; clear BK171; clear HK; clear HB; have HO0_0 := n0_; have HO0_2 := n1_; have BK171 := n2_; have HK := n3_; have HB := n4_; clear n0_ n1_ n2_ n3_ n4_; (try clear hb); (try clear hkp); (try clear hy0); have hcz19_0 := bc0 BK171.out; have hcz19_1 := bc1 BK171.out; have hcz19_2 := bc2 BK171.out; have hcz19_3 := bc3 BK171.out; have hcz19_4 := bc4 BK171.out; have hcz19_5 := bc5 BK171.out; have hcz19_6 := bc6 BK171.out; have hcz19_7 := bc7 BK171.out; have hcz19_8 := bc8 BK171.out; have hcz19_9 := bc9 BK171.out; have hcz19_10 : w18.cell? ⟨gb171, 10, none⟩ = some (.slice A0_10 l0_10.length c0_10) := (blk_cell BK171.out 10).trans rfl; have hcz19_11 : w18.cell? ⟨gb171, 11, none⟩ = some (.slice A0_11 l0_11.length c0_11) := (blk_cell BK171.out 11).trans rfl; have hcz19_12 : w18.cell? ⟨gb171, 12, none⟩ = some (.slice A0_12 l0_12.length c0_12) := (blk_cell BK171.out 12).trans rfl; have hfz19_0 := blk_frozen BK171.out 0; have hfz19_1 := blk_frozen BK171.out 1; have hfz19_2 := blk_frozen BK171.out 2; have hfz19_3 := blk_frozen BK171.out 3; have hfz19_4 := blk_frozen BK171.out 4; have hfz19_5 := blk_frozen BK171.out 5; have hfz19_6 := blk_frozen BK171.out 6; have hfz19_7 := blk_frozen BK171.out 7; have hfz19_8 := blk_frozen BK171.out 8; have hfz19_9 := blk_frozen BK171.out 9; have hfz19_10 := blk_frozen BK171.out 10; have hfz19_11 := blk_frozen BK171.out 11; have hfz19_12 := blk_frozen BK171.out 12) | ((with_reducible refine gate_callee (f := 22) rfl ?_); refine goesL_ (some 16) rfl rfl Try.func22 (by kernel_rfl) rfl #[.slice A0_3 l0_3.length c0_3, .int .i64 t174] rfl gZ ?_; (with_reducible refine (laws_markValveS.calls k _ _ l0_3 t174 t176 _ ?side1 ?side2 A5.out).mono ?_); (case side1 => exact Kd.C_kept_now HR0_3.out (by repeat (first | (with_reducible first | exact HK.out | apply Kept.alloc | apply Kept.drewN | apply Kept.drew | refine Kept.setCell ?_ (.inr GW171.out) _) | exact HK.out))); (case side2 => exact HC0_3.out); rintro e w20 ⟨rfl, hb⟩; refine ⟨_, rfl, ?_⟩; have n0_ := Aside0.mk (Kd.R_below (Kd.rZ HO0_0.out) hb); have n1_ := Aside0.mk (Kd.R_below (Kd.rZ HO0_2.out) hb); have n2_ := Aside0.mk (blk_below (g := gb171) (o := .cells #[.slice Ao12 l0_0.length co12, .slice A0_1 l0_1.length c0_1, .slice Ao13 l0_2.length co13, .slice A0_3 l0_3.length c0_3, .slice A0_4 l0_4.length c0_4, .slice A0_5 l0_5.length c0_5, .int .i64 a0_6, .int .i64 a0_7, .int .i64 a0_8, .slice A0_9 l0_9.length c0_9, .slice A0_10 l0_10.length c0_10, .slice A0_11 l0_11.length c0_11, .slice A0_12 l0_12.length c0_12] 36 (0, 0)) (kZ BK171.out) hb); have n3_ := Aside0.mk (Kept.below (S := (fun k_ => P0_0_ k_ ∨ P0_2_ k_)) (by repeat (first | (with_reducible first | exact HK.out | apply Kept.alloc | apply Kept.drewN | apply Kept.drew | refine Kept.setCell ?_ (.inr GW171.out) _) | exact HK.out)) hb); have n4_ := Aside0.mk (below_step bZ hb); clear HO0_0; clear HO0_2; clear BK171; clear HK; clear HB; have HO0_0 := n0_; have HO0_2 := n1_; have BK171 := n2_; have HK := n3_; have HB := n4_; clear n0_ n1_ n2_ n3_ n4_; (try clear hb); (try clear hb2); (try clear hk); (try clear hi); have hcz21_0 := bc0 BK171.out; have hcz21_1 := bc1 BK171.out; have hcz21_2 := bc2 BK171.out; have hcz21_3 := bc3 BK171.out; have hcz21_4 := bc4 BK171.out; have hcz21_5 := bc5 BK171.out; have hcz21_6 := bc6 BK171.out; have hcz21_7 := bc7 BK171.out; have hcz21_8 := bc8 BK171.out; have hcz21_9 := bc9 BK171.out; have hcz21_10 : w20.cell? ⟨gb171, 10, none⟩ = some (.slice A0_10 l0_10.length c0_10) := (blk_cell BK171.out 10).trans rfl; have hcz21_11 : w20.cell? ⟨gb171, 11, none⟩ = some (.slice A0_11 l0_11.length c0_11) := (blk_cell BK171.out 11).trans rfl; have hcz21_12 : w20.cell? ⟨gb171, 12, none⟩ = some (.slice A0_12 l0_12.length c0_12) := (blk_cell BK171.out 12).trans rfl; have hfz21_0 := blk_frozen BK171.out 0; have hfz21_1 := blk_frozen BK171.out 1; have hfz21_2 := blk_frozen BK171.out 2; have hfz21_3 := blk_frozen BK171.out 3; have hfz21_4 := blk_frozen BK171.out 4; have hfz21_5 := blk_frozen BK171.out 5; have hfz21_6 := blk_frozen BK171.out 6; have hfz21_7 := blk_frozen BK171.out 7; have hfz21_8 := blk_frozen BK171.out 8; have hfz21_9 := blk_frozen BK171.out 9; have hfz21_10 := blk_frozen BK171.out 10; have hfz21_11 := blk_frozen BK171.out 11; have hfz21_12 := blk_frozen BK171.out 12) | ((with_reducible refine gate_callee (f := 23) rfl ?_); refine goesL_ (some 20) rfl rfl Try.func23 (by kernel_rfl) rfl #[.slice A0_4 l0_4.length c0_4, .int .i64 t176] rfl gZ ?_; (with_reducible refine (laws_markPumpS.calls k _ _ l0_4 t176 t177 _ ?side1 ?side2 A6.out).mono ?_); (case side1 => exact Kd.C_kept_now HR0_4.out (by repeat (first | (with_reducible first | exact HK.out | apply Kept.alloc | apply Kept.drewN | apply Kept.drew | refine Kept.setCell ?_ (.inr GW171.out) _) | exact HK.out))); (case side2 => exact HC0_4.out); rintro e w22 ⟨rfl, hb⟩; refine ⟨_, rfl, ?_⟩; have n0_ := Aside0.mk (Kd.R_below (Kd.rZ HO0_0.out) hb); have n1_ := Aside0.mk (Kd.R_below (Kd.rZ HO0_2.out) hb); have n2_ := Aside0.mk (blk_below (g := gb171) (o := .cells #[.slice Ao12 l0_0.length co12, .slice A0_1 l0_1.length c0_1, .slice Ao13 l0_2.length co13, .slice A0_3 l0_3.length c0_3, .slice A0_4 l0_4.length c0_4, .slice A0_5 l0_5.length c0_5, .int .i64 a0_6, .int .i64 a0_7, .int .i64 a0_8, .slice A0_9 l0_9.length c0_9, .slice A0_10 l0_10.length c0_10, .slice A0_11 l0_11.length c0_11, .slice A0_12 l0_12.length c0_12] 36 (0, 0)) (kZ BK171.out) hb); have n3_ := Aside0.mk (Kept.below (S := (fun k_ => P0_0_ k_ ∨ P0_2_ k_)) (by repeat (first | (with_reducible first | exact HK.out | apply Kept.alloc | apply Kept.drewN | apply Kept.drew | refine Kept.setCell ?_ (.inr GW171.out) _) | exact HK.out)) hb); have n4_ := Aside0.mk (below_step bZ hb); clear HO0_0; clear HO0_2; clear BK171; clear HK; clear HB; have HO0_0 := n0_; have HO0_2 := n1_; have BK171 := n2_; have HK := n3_; have HB := n4_; clear n0_ n1_ n2_ n3_ n4_; (try clear hb); (try clear hb2); (try clear hk); (try clear hi); have hcz23_0 := bc0 BK171.out; have hcz23_1 := bc1 BK171.out; have hcz23_2 := bc2 BK171.out; have hcz23_3 := bc3 BK171.out; have hcz23_4 := bc4 BK171.out; have hcz23_5 := bc5 BK171.out; have hcz23_6 := bc6 BK171.out; have hcz23_7 := bc7 BK171.out; have hcz23_8 := bc8 BK171.out; have hcz23_9 := bc9 BK171.out; have hcz23_10 : w22.cell? ⟨gb171, 10, none⟩ = some (.slice A0_10 l0_10.length c0_10) := (blk_cell BK171.out 10).trans rfl; have hcz23_11 : w22.cell? ⟨gb171, 11, none⟩ = some (.slice A0_11 l0_11.length c0_11) := (blk_cell BK171.out 11).trans rfl; have hcz23_12 : w22.cell? ⟨gb171, 12, none⟩ = some (.slice A0_12 l0_12.length c0_12) := (blk_cell BK171.out 12).trans rfl; have hfz23_0 := blk_frozen BK171.out 0; have hfz23_1 := blk_frozen BK171.out 1; have hfz23_2 := blk_frozen BK171.out 2; have hfz23_3 := blk_frozen BK171.out 3; have hfz23_4 := blk_frozen BK171.out 4; have hfz23_5 := blk_frozen BK171.out 5; have hfz23_6 := blk_frozen BK171.out 6; have hfz23_7 := blk_frozen BK171.out 7; have hfz23_8 := blk_frozen BK171.out 8; have hfz23_9 := blk_frozen BK171.out 9; have hfz23_10 := blk_frozen BK171.out 10; have hfz23_11 := blk_frozen BK171.out 11; have hfz23_12 := blk_frozen BK171.out 12) | ((with_reducible refine gate_callee (f := 24) rfl ?_); refine goesL_ (some 24) rfl rfl Try.func24 (by kernel_rfl) rfl #[.slice A0_5 l0_5.length c0_5, .int .i64 t177] rfl gZ ?_; (with_reducible refine (laws_markSubstationS.calls k _ _ l0_5 t177 t178 _ ?side1 ?side2 A7.out).mono ?_); (case side1 => exact Kd.C_kept_now HR0_5.out (by repeat (first | (with_reducible first | exact HK.out | apply Kept.alloc | apply Kept.drewN | apply Kept.drew | refine Kept.setCell ?_ (.inr GW171.out) _) | exact HK.out))); (case side2 => exact HC0_5.out); rintro e w24 ⟨rfl, hb⟩; refine ⟨_, rfl, ?_⟩; have n0_ := Aside0.mk (Kd.R_below (Kd.rZ HO0_0.out) hb); have n1_ := Aside0.mk (Kd.R_below (Kd.rZ HO0_2.out) hb); have n2_ := Aside0.mk (blk_below (g := gb171) (o := .cells #[.slice Ao12 l0_0.length co12, .slice A0_1 l0_1.length c0_1, .slice Ao13 l0_2.length co13, .slice A0_3 l0_3.length c0_3, .slice A0_4 l0_4.length c0_4, .slice A0_5 l0_5.length c0_5, .int .i64 a0_6, .int .i64 a0_7, .int .i64 a0_8, .slice A0_9 l0_9.length c0_9, .slice A0_10 l0_10.length c0_10, .slice A0_11 l0_11.length c0_11, .slice A0_12 l0_12.length c0_12] 36 (0, 0)) (kZ BK171.out) hb); have n3_ := Aside0.mk (Kept.below (S := (fun k_ => P0_0_ k_ ∨ P0_2_ k_)) (by repeat (first | (with_reducible first | exact HK.out | apply Kept.alloc | apply Kept.drewN | apply Kept.drew | refine Kept.setCell ?_ (.inr GW171.out) _) | exact HK.out)) hb); have n4_ := Aside0.mk (below_step bZ hb); clear HO0_0; clear HO0_2; clear BK171; clear HK; clear HB; have HO0_0 := n0_; have HO0_2 := n1_; have BK171 := n2_; have HK := n3_; have HB := n4_; clear n0_ n1_ n2_ n3_ n4_; (try clear hb); (try clear hb2); (try clear hk); (try clear hi); have hcz25_0 := bc0 BK171.out; have hcz25_1 := bc1 BK171.out; have hcz25_2 := bc2 BK171.out; have hcz25_3 := bc3 BK171.out; have hcz25_4 := bc4 BK171.out; have hcz25_5 := bc5 BK171.out; have hcz25_6 := bc6 BK171.out; have hcz25_7 := bc7 BK171.out; have hcz25_8 := bc8 BK171.out; have hcz25_9 := bc9 BK171.out; have hcz25_10 : w24.cell? ⟨gb171, 10, none⟩ = some (.slice A0_10 l0_10.length c0_10) := (blk_cell BK171.out 10).trans rfl; have hcz25_11 : w24.cell? ⟨gb171, 11, none⟩ = some (.slice A0_11 l0_11.length c0_11) := (blk_cell BK171.out 11).trans rfl; have hcz25_12 : w24.cell? ⟨gb171, 12, none⟩ = some (.slice A0_12 l0_12.length c0_12) := (blk_cell BK171.out 12).trans rfl; have hfz25_0 := blk_frozen BK171.out 0; have hfz25_1 := blk_frozen BK171.out 1; have hfz25_2 := blk_frozen BK171.out 2; have hfz25_3 := blk_frozen BK171.out 3; have hfz25_4 := blk_frozen BK171.out 4; have hfz25_5 := blk_frozen BK171.out 5; have hfz25_6 := blk_frozen BK171.out 6; have hfz25_7 := blk_frozen BK171.out 7; have hfz25_8 := blk_frozen BK171.out 8; have hfz25_9 := blk_frozen BK171.out 9; have hfz25_10 := blk_frozen BK171.out 10; have hfz25_11 := blk_frozen BK171.out 11; have hfz25_12 := blk_frozen BK171.out 12) | ((with_reducible refine gate_callee (f := 25) rfl ?_); refine goesL_ (some 28) rfl rfl Try.func25 (by kernel_rfl) rfl #[.slice A0_9 l0_9.length c0_9, .int .i64 t178] rfl gZ ?_; (with_reducible refine (laws_markFuelS.calls k _ _ l0_9 t178 t179 _ ?side1 ?side2 A8.out).mono ?_); (case side1 => exact Kd.C_kept_now HR0_9.out (by repeat (first | (with_reducible first | exact HK.out | apply Kept.alloc | apply Kept.drewN | apply Kept.drew | refine Kept.setCell ?_ (.inr GW171.out) _) | exact HK.out))); (case side2 => exact HC0_9.out); rintro e w26 ⟨rfl, hb⟩; refine ⟨_, rfl, ?_⟩; have n0_ := Aside0.mk (Kd.R_below (Kd.rZ HO0_0.out) hb); have n1_ := Aside0.mk (Kd.R_below (Kd.rZ HO0_2.out) hb); have n2_ := Aside0.mk (blk_below (g := gb171) (o := .cells #[.slice Ao12 l0_0.length co12, .slice A0_1 l0_1.length c0_1, .slice Ao13 l0_2.length co13, .slice A0_3 l0_3.length c0_3, .slice A0_4 l0_4.length c0_4, .slice A0_5 l0_5.length c0_5, .int .i64 a0_6, .int .i64 a0_7, .int .i64 a0_8, .slice A0_9 l0_9.length c0_9, .slice A0_10 l0_10.length c0_10, .slice A0_11 l0_11.length c0_11, .slice A0_12 l0_12.length c0_12] 36 (0, 0)) (kZ BK171.out) hb); have n3_ := Aside0.mk (Kept.below (S := (fun k_ => P0_0_ k_ ∨ P0_2_ k_)) (by repeat (first | (with_reducible first | exact HK.out | apply Kept.alloc | apply Kept.drewN | apply Kept.drew | refine Kept.setCell ?_ (.inr GW171.out) _) | exact HK.out)) hb); have n4_ := Aside0.mk (below_step bZ hb); clear HO0_0; clear HO0_2; clear BK171; clear HK; clear HB; have HO0_0 := n0_; have HO0_2 := n1_; have BK171 := n2_; have HK := n3_; have HB := n4_; clear n0_ n1_ n2_ n3_ n4_; (try clear hb); (try clear hb2); (try clear hk); (try clear hi); have hcz27_0 := bc0 BK171.out; have hcz27_1 := bc1 BK171.out; have hcz27_2 := bc2 BK171.out; have hcz27_3 := bc3 BK171.out; have hcz27_4 := bc4 BK171.out; have hcz27_5 := bc5 BK171.out; have hcz27_6 := bc6 BK171.out; have hcz27_7 := bc7 BK171.out; have hcz27_8 := bc8 BK171.out; have hcz27_9 := bc9 BK171.out; have hcz27_10 : w26.cell? ⟨gb171, 10, none⟩ = some (.slice A0_10 l0_10.length c0_10) := (blk_cell BK171.out 10).trans rfl; have hcz27_11 : w26.cell? ⟨gb171, 11, none⟩ = some (.slice A0_11 l0_11.length c0_11) := (blk_cell BK171.out 11).trans rfl; have hcz27_12 : w26.cell? ⟨gb171, 12, none⟩ = some (.slice A0_12 l0_12.length c0_12) := (blk_cell BK171.out 12).trans rfl; have hfz27_0 := blk_frozen BK171.out 0; have hfz27_1 := blk_frozen BK171.out 1; have hfz27_2 := blk_frozen BK171.out 2; have hfz27_3 := blk_frozen BK171.out 3; have hfz27_4 := blk_frozen BK171.out 4; have hfz27_5 := blk_frozen BK171.out 5; have hfz27_6 := blk_frozen BK171.out 6; have hfz27_7 := blk_frozen BK171.out 7; have hfz27_8 := blk_frozen BK171.out 8; have hfz27_9 := blk_frozen BK171.out 9; have hfz27_10 := blk_frozen BK171.out 10; have hfz27_11 := blk_frozen BK171.out 11; have hfz27_12 := blk_frozen BK171.out 12) | ((with_reducible refine gate_callee (f := 26) rfl ?_); refine goesL_ (some 32) rfl rfl Try.func26 (by kernel_rfl) rfl #[.slice A0_10 l0_10.length c0_10, .int .i64 t179] rfl gZ ?_; (with_reducible refine (laws_markRepairS.calls k _ _ l0_10 t179 t180 _ ?side1 ?side2 A9.out).mono ?_); (case side1 => exact Kd.C_kept_now HR0_10.out (by repeat (first | (with_reducible first | exact HK.out | apply Kept.alloc | apply Kept.drewN | apply Kept.drew | refine Kept.setCell ?_ (.inr GW171.out) _) | exact HK.out))); (case side2 => exact HC0_10.out); rintro e w28 ⟨rfl, hb⟩; refine ⟨_, rfl, ?_⟩; have n0_ := Aside0.mk (Kd.R_below (Kd.rZ HO0_0.out) hb); have n1_ := Aside0.mk (Kd.R_below (Kd.rZ HO0_2.out) hb); have n2_ := Aside0.mk (blk_below (g := gb171) (o := .cells #[.slice Ao12 l0_0.length co12, .slice A0_1 l0_1.length c0_1, .slice Ao13 l0_2.length co13, .slice A0_3 l0_3.length c0_3, .slice A0_4 l0_4.length c0_4, .slice A0_5 l0_5.length c0_5, .int .i64 a0_6, .int .i64 a0_7, .int .i64 a0_8, .slice A0_9 l0_9.length c0_9, .slice A0_10 l0_10.length c0_10, .slice A0_11 l0_11.length c0_11, .slice A0_12 l0_12.length c0_12] 36 (0, 0)) (kZ BK171.out) hb); have n3_ := Aside0.mk (Kept.below (S := (fun k_ => P0_0_ k_ ∨ P0_2_ k_)) (by repeat (first | (with_reducible first | exact HK.out | apply Kept.alloc | apply Kept.drewN | apply Kept.drew | refine Kept.setCell ?_ (.inr GW171.out) _) | exact HK.out)) hb); have n4_ := Aside0.mk (below_step bZ hb); clear HO0_0; clear HO0_2; clear BK171; clear HK; clear HB; have HO0_0 := n0_; have HO0_2 := n1_; have BK171 := n2_; have HK := n3_; have HB := n4_; clear n0_ n1_ n2_ n3_ n4_; (try clear hb); (try clear hb2); (try clear hk); (try clear hi); have hcz29_0 := bc0 BK171.out; have hcz29_1 := bc1 BK171.out; have hcz29_2 := bc2 BK171.out; have hcz29_3 := bc3 BK171.out; have hcz29_4 := bc4 BK171.out; have hcz29_5 := bc5 BK171.out; have hcz29_6 := bc6 BK171.out; have hcz29_7 := bc7 BK171.out; have hcz29_8 := bc8 BK171.out; have hcz29_9 := bc9 BK171.out; have hcz29_10 : w28.cell? ⟨gb171, 10, none⟩ = some (.slice A0_10 l0_10.length c0_10) := (blk_cell BK171.out 10).trans rfl; have hcz29_11 : w28.cell? ⟨gb171, 11, none⟩ = some (.slice A0_11 l0_11.length c0_11) := (blk_cell BK171.out 11).trans rfl; have hcz29_12 : w28.cell? ⟨gb171, 12, none⟩ = some (.slice A0_12 l0_12.length c0_12) := (blk_cell BK171.out 12).trans rfl; have hfz29_0 := blk_frozen BK171.out 0; have hfz29_1 := blk_frozen BK171.out 1; have hfz29_2 := blk_frozen BK171.out 2; have hfz29_3 := blk_frozen BK171.out 3; have hfz29_4 := blk_frozen BK171.out 4; have hfz29_5 := blk_frozen BK171.out 5; have hfz29_6 := blk_frozen BK171.out 6; have hfz29_7 := blk_frozen BK171.out 7; have hfz29_8 := blk_frozen BK171.out 8; have hfz29_9 := blk_frozen BK171.out 9; have hfz29_10 := blk_frozen BK171.out 10; have hfz29_11 := blk_frozen BK171.out 11; have hfz29_12 := blk_frozen BK171.out 12) | ((with_reducible refine gate_callee (f := 27) rfl ?_); refine goesL_ (some 36) rfl rfl Try.func27 (by kernel_rfl) rfl #[.slice A0_11 l0_11.length c0_11, .int .i64 t180] rfl gZ ?_; (with_reducible refine (laws_markTenantS.calls k _ _ l0_11 t180 t181 _ ?side1 ?side2 A10.out).mono ?_); (case side1 => exact Kd.C_kept_now HR0_11.out (by repeat (first | (with_reducible first | exact HK.out | apply Kept.alloc | apply Kept.drewN | apply Kept.drew | refine Kept.setCell ?_ (.inr GW171.out) _) | exact HK.out))); (case side2 => exact HC0_11.out); rintro e w30 ⟨rfl, hb⟩; refine ⟨_, rfl, ?_⟩; have n0_ := Aside0.mk (Kd.R_below (Kd.rZ HO0_0.out) hb); have n1_ := Aside0.mk (Kd.R_below (Kd.rZ HO0_2.out) hb); have n2_ := Aside0.mk (blk_below (g := gb171) (o := .cells #[.slice Ao12 l0_0.length co12, .slice A0_1 l0_1.length c0_1, .slice Ao13 l0_2.length co13, .slice A0_3 l0_3.length c0_3, .slice A0_4 l0_4.length c0_4, .slice A0_5 l0_5.length c0_5, .int .i64 a0_6, .int .i64 a0_7, .int .i64 a0_8, .slice A0_9 l0_9.length c0_9, .slice A0_10 l0_10.length c0_10, .slice A0_11 l0_11.length c0_11, .slice A0_12 l0_12.length c0_12] 36 (0, 0)) (kZ BK171.out) hb); have n3_ := Aside0.mk (Kept.below (S := (fun k_ => P0_0_ k_ ∨ P0_2_ k_)) (by repeat (first | (with_reducible first | exact HK.out | apply Kept.alloc | apply Kept.drewN | apply Kept.drew | refine Kept.setCell ?_ (.inr GW171.out) _) | exact HK.out)) hb); have n4_ := Aside0.mk (below_step bZ hb); clear HO0_0; clear HO0_2; clear BK171; clear HK; clear HB; have HO0_0 := n0_; have HO0_2 := n1_; have BK171 := n2_; have HK := n3_; have HB := n4_; clear n0_ n1_ n2_ n3_ n4_; (try clear hb); (try clear hb2); (try clear hk); (try clear hi); have hcz31_0 := bc0 BK171.out; have hcz31_1 := bc1 BK171.out; have hcz31_2 := bc2 BK171.out; have hcz31_3 := bc3 BK171.out; have hcz31_4 := bc4 BK171.out; have hcz31_5 := bc5 BK171.out; have hcz31_6 := bc6 BK171.out; have hcz31_7 := bc7 BK171.out; have hcz31_8 := bc8 BK171.out; have hcz31_9 := bc9 BK171.out; have hcz31_10 : w30.cell? ⟨gb171, 10, none⟩ = some (.slice A0_10 l0_10.length c0_10) := (blk_cell BK171.out 10).trans rfl; have hcz31_11 : w30.cell? ⟨gb171, 11, none⟩ = some (.slice A0_11 l0_11.length c0_11) := (blk_cell BK171.out 11).trans rfl; have hcz31_12 : w30.cell? ⟨gb171, 12, none⟩ = some (.slice A0_12 l0_12.length c0_12) := (blk_cell BK171.out 12).trans rfl; have hfz31_0 := blk_frozen BK171.out 0; have hfz31_1 := blk_frozen BK171.out 1; have hfz31_2 := blk_frozen BK171.out 2; have hfz31_3 := blk_frozen BK171.out 3; have hfz31_4 := blk_frozen BK171.out 4; have hfz31_5 := blk_frozen BK171.out 5; have hfz31_6 := blk_frozen BK171.out 6; have hfz31_7 := blk_frozen BK171.out 7; have hfz31_8 := blk_frozen BK171.out 8; have hfz31_9 := blk_frozen BK171.out 9; have hfz31_10 := blk_frozen BK171.out 10; have hfz31_11 := blk_frozen BK171.out 11; have hfz31_12 := blk_frozen BK171.out 12) | ((with_reducible refine gate_callee (f := 28) rfl ?_); refine goesL_ (some 40) rfl rfl Try.func28 (by kernel_rfl) rfl #[.slice A0_12 l0_12.length c0_12, .int .i64 t181] rfl gZ ?_; (with_reducible refine (laws_markDutyS.calls k _ _ l0_12 t181 t182 _ ?side1 ?side2 A11.out).mono ?_); (case side1 => exact Kd.C_kept_now HR0_12.out (by repeat (first | (with_reducible first | exact HK.out | apply Kept.alloc | apply Kept.drewN | apply Kept.drew | refine Kept.setCell ?_ (.inr GW171.out) _) | exact HK.out))); (case side2 => exact HC0_12.out); rintro e w32 ⟨rfl, hb⟩; refine ⟨_, rfl, ?_⟩; have n0_ := Aside0.mk (Kd.R_below (Kd.rZ HO0_0.out) hb); have n1_ := Aside0.mk (Kd.R_below (Kd.rZ HO0_2.out) hb); have n2_ := Aside0.mk (blk_below (g := gb171) (o := .cells #[.slice Ao12 l0_0.length co12, .slice A0_1 l0_1.length c0_1, .slice Ao13 l0_2.length co13, .slice A0_3 l0_3.length c0_3, .slice A0_4 l0_4.length c0_4, .slice A0_5 l0_5.length c0_5, .int .i64 a0_6, .int .i64 a0_7, .int .i64 a0_8, .slice A0_9 l0_9.length c0_9, .slice A0_10 l0_10.length c0_10, .slice A0_11 l0_11.length c0_11, .slice A0_12 l0_12.length c0_12] 36 (0, 0)) (kZ BK171.out) hb); have n3_ := Aside0.mk (Kept.below (S := (fun k_ => P0_0_ k_ ∨ P0_2_ k_)) (by repeat (first | (with_reducible first | exact HK.out | apply Kept.alloc | apply Kept.drewN | apply Kept.drew | refine Kept.setCell ?_ (.inr GW171.out) _) | exact HK.out)) hb); have n4_ := Aside0.mk (below_step bZ hb); clear HO0_0; clear HO0_2; clear BK171; clear HK; clear HB; have HO0_0 := n0_; have HO0_2 := n1_; have BK171 := n2_; have HK := n3_; have HB := n4_; clear n0_ n1_ n2_ n3_ n4_; (try clear hb); (try clear hb2); (try clear hk); (try clear hi)))
 go_ret
 exact ⟨eZ, Kd.rZ (Kd.R_mono HO0_0.out (fun _ hk => hk.1)), Kd.rZ (Kd.R_mono HO0_2.out (fun _ hk => hk.1)), bZ, by repeat (first | (with_reducible first | exact HK.out | apply Kept.alloc | apply Kept.drewN | apply Kept.drew | refine Kept.setCell ?_ (.inr GW171.out) _) | exact HK.out)⟩
end Go.Proofs.Ytckhjpjcimjclaa.XR
end

section
namespace Go.Proofs.Ytckhjpjcimjclaa.XR
open Go.RowKit Go.Proofs.YtckhjpjcimjclaaW.PrintWords Go.Proofs.YtckhjpjcimjclaaW.PrintLast Go.Proofs.YtckhjpjcimjclaaW.PrintMore
attribute [local go_sem] run_eql_slice_nil binOp_string_gtr' binOp_string_leq' binOp_string_geq' max2_int min2_int max_two min_two max_three min_three max_four min_four   -- for this text's walks alone
set_option linter.unusedVariables false
set_option linter.unusedSimpArgs false
def laws_heldInt64S.l0 : Nat → List Int → Int → Int → Option (Int)
 | 0, _, _, _ => none
 | k + 1, x0, x1, x5 => if x5 < (x0.length : Int) then (if 0 ≤ x5 then (if (rd x0 x5) = x1 then (laws_heldInt64S.l0 k x0 (wrap64 (x1 + 1)) (wrap64 (x5 + 1))) else (some (-1))) else (none)) else (some x1)
def laws_heldInt64S.f (k : Nat) (l0 : List Int) (a1 : Int) : Option (Int) := laws_heldInt64S.l0 k l0 a1 0
set_option maxHeartbeats 8000000 in
set_option maxRecDepth 100000 in
theorem laws_heldInt64S.calls (k : Nat) (A0 : Option Addr) (c0 : Nat) (l0 : List Int) (a1 : Int) (r : Int) (w : World) (hr0 : Kd.C (Kd.int .i64) w A0 l0.length l0) (hc0 : l0.length ≤ c0) (h : laws_heldInt64S.f k l0 a1 = some r) :
  Calls Try.prog 30 #[.slice A0 l0.length c0, .int .i64 a1] w fun e w' => e = .returned (.int .i64 r) ∧ Drawn0 w w' := by
 have HR0 := Aside0.mk hr0
 have HC0 := Aside0.mk hc0
 clear hr0 hc0
 have H : (laws_heldInt64S.l0 k l0 a1 0) = some r := h
 clear h
 have H' := Aside0.mk H
 clear H
 go_enter Try.func30, Try.ntmps30
 go_wp2
 go_loopg [1, 5] k (fun kq v1 v5 w' => ∃ (x1_1 : Int) (x5_1 : Int), v1 = .int .i64 x1_1 ∧ v5 = .int .i64 x5_1 ∧ Aside0 (laws_heldInt64S.l0 kq l0 x1_1 x5_1 = some r) ∧ Aside0 (kq ≤ k) ∧ Drawn0 w w')
 case atStart => exact ⟨(a1), (0), sZ, sZ, H', ⟨Nat.le_refl _⟩, dZ⟩
 case round =>
  clear H'; (try clear p2)
  obtain ⟨x1_1, x5_1, rfl, rfl, HA, HK1, ⟨m1, rfl⟩⟩ := hrel
  cases gk with
  | zero => exact absurd HA.out (by simp [laws_heldInt64S.l0])
  | succ k1 =>
   have H := HA.out
   clear HA
   simp only [laws_heldInt64S.l0] at H
   by_cases c3 : x5_1 < (l0.length : Int)
   ·rw [if_pos c3] at H
    have c3b0 : decide (x5_1 < (l0.length : Int)) = true := decide_eq_true c3
    clear c3
    by_cases c4 : 0 ≤ x5_1
    ·rw [if_pos c4] at H
     have c4b0 : decide (0 ≤ x5_1) = true := decide_eq_true c4
     clear c4
     by_cases c5 : (rd l0 x5_1) = x1_1
     ·rw [if_pos c5] at H
      have c5b0 : ((rd l0 x5_1) == x1_1) = true := beq_iff_eq.mpr c5
      have c5b1 : ((rd l0 x5_1) != x1_1) = false := bne_eq_false_iff_eq.mpr c5
      clear c5
      have H' := Aside0.mk H
      clear H
      have p183 : 0 ≤ (x5_1 : Int) := oZ
      have q183 : x5_1 < (l0.length : Int) := oZ
      obtain ⟨ad183, e183, hx183_0⟩ := Kd.at_int HR0.out x5_1 p183 q183
      cases e183
      replace p183 := eq_true p183
      replace q183 := eq_true q183
      go_wp2
      go_roundg k1
      case measure => have := HK1.out; omega
      case rel => exact ⟨(wrap64 (x1_1 + 1)), (wrap64 (x5_1 + 1)), sZ, sZ, H', ⟨by have := HK1.out; omega⟩, dZ⟩
     ·rw [if_neg c5] at H
      have c5b0 : ((rd l0 x5_1) == x1_1) = false := beq_eq_false_iff_ne.mpr c5
      have c5b1 : ((rd l0 x5_1) != x1_1) = true := bne_iff_ne.mpr c5
      obtain rfl := Option.some.inj H
      have p183 : 0 ≤ (x5_1 : Int) := oZ
      have q183 : x5_1 < (l0.length : Int) := oZ
      obtain ⟨ad183, e183, hx183_0⟩ := Kd.at_int HR0.out x5_1 p183 q183
      cases e183
      replace p183 := eq_true p183
      replace q183 := eq_true q183
      go_wp2
      go_ret
      exact ⟨sZ, dZ⟩
    ·rw [if_neg c4] at H
     exact absurd H (by simp)
   ·rw [if_neg c3] at H
    have c3b0 : decide (x5_1 < (l0.length : Int)) = false := decide_eq_false c3
    clear c3
    obtain rfl := Option.some.inj H
    go_wp2
    go_ret
    exact ⟨sZ, dZ⟩
def laws_heldPipeS.f (k : Nat) (l0 : List (S88)) (a1 : Int) : Option (Int) := if l0.length = 0 then some a1 else none
set_option maxHeartbeats 1000000 in
theorem laws_heldPipeS.calls (k : Nat) (A0 : Option Addr) (c0 : Nat) (l0 : List (S88)) (a1 : Int) (r : Int) (w : World) (hr0 : Kd.C k88 w A0 l0.length l0) (hc0 : l0.length ≤ c0) (h : laws_heldPipeS.f k l0 a1 = some r) :
  Calls Try.prog 49 #[.slice A0 l0.length c0, .int .i64 a1] w fun e w' => e = .returned (.int .i64 r) ∧ Below w.heap.size w w' := by
 unfold laws_heldPipeS.f at h
 by_cases hl : l0.length = 0
 ·rw [if_pos hl] at h
  simp only [Option.some.injEq] at h
  subst h
  rw [hl]
  clear hr0 hc0
  go_enter Try.func49, Try.ntmps49
  go_wp2
  go_loopw [1, 5] (fun v1 v5 wr => v1 = .int .i64 a1 ∧ v5 = .int .i64 0 ∧ wr = w) (fun _ _ _ => 0)
  case atStart => exact ⟨rfl, rfl, rfl⟩
  case round =>
   obtain ⟨rfl, rfl, rfl⟩ := hrel
   go_wp2
   go_ret
   exact ⟨rfl, Below.refl _ _⟩
 ·rw [if_neg hl] at h
  exact absurd h (by simp)
def laws_heldNetwork.f (k : Nat) (l0_0 : List Int) (l0_1 : List (S88)) (a1 : Int) : Option (Int) := (laws_heldInt64S.f k l0_0 a1).bind fun t185 => (if t185 < 0 then (some (-1)) else ((laws_heldPipeS.f k l0_1 t185).bind fun t186 => (if t186 < 0 then (some (-1)) else (some t186))))
set_option maxHeartbeats 8000000 in
set_option maxRecDepth 100000 in
theorem laws_heldNetwork.calls (k : Nat) (A0_0 : Option Addr) (c0_0 : Nat) (l0_0 : List Int) (A0_1 : Option Addr) (c0_1 : Nat) (l0_1 : List (S88)) (a1 : Int) (r : Int) (w : World) (hr0_0 : Kd.C (Kd.int .i64) w A0_0 l0_0.length l0_0) (hc0_0 : l0_0.length ≤ c0_0) (hr0_1 : Kd.C k88 w A0_1 l0_1.length l0_1) (hc0_1 : l0_1.length ≤ c0_1) (h : laws_heldNetwork.f k l0_0 l0_1 a1 = some r) :
  Calls Try.prog 29 #[.agg #[.slice A0_0 l0_0.length c0_0, .slice A0_1 l0_1.length c0_1], .int .i64 a1] w fun e w' => e = .returned (.int .i64 r) ∧ Below w.heap.size w w' := by
 have hu25 := Try.underlying25
 have HR0_0 := Aside0.mk hr0_0
 have HC0_0 := Aside0.mk hc0_0
 clear hr0_0 hc0_0
 have HR0_1 := Aside0.mk hr0_1
 have HC0_1 := Aside0.mk hc0_1
 clear hr0_1 hc0_1
 have HB := Aside0.mk (Below.refl w.heap.size w)
 have H : ((laws_heldInt64S.f k l0_0 a1).bind fun t185 => (if t185 < 0 then (some (-1)) else ((laws_heldPipeS.f k l0_1 t185).bind fun t186 => (if t186 < 0 then (some (-1)) else (some t186))))) = some r := h
 clear h
 replace H := Option.bind_eq_some_iff.mp H
 obtain ⟨t185, A30, H⟩ := H
 replace H : (if t185 < 0 then (some (-1)) else ((laws_heldPipeS.f k l0_1 t185).bind fun t186 => (if t186 < 0 then (some (-1)) else (some t186)))) = some r := H
 have A3 := Aside0.mk A30
 clear A30
 by_cases c4 : t185 < 0
 ·rw [if_pos c4] at H
  have c4b0 : decide (t185 < 0) = true := decide_eq_true c4
  clear c4
  obtain rfl := Option.some.inj H
  go_enter Try.func29, Try.ntmps29
  go_wp2_with (first | ((with_reducible refine gate_dst (N := 2) rfl ?_); refine boxZ 2 #[.slice A0_0 l0_0.length c0_0, .slice A0_1 l0_1.length c0_1] 25 rfl rfl ?_; intro gb184 hg w5 hbox hb; have n0_ := Aside0.mk (below_step bZ hb); have n1_ := Aside0.mk (hbox); have n2_ := Aside0.mk ((by rw [hg]; exact bsZ : w.heap.size ≤ gb184)); have n3_ := Aside0.mk ((by rw [hg]; exact bsZ : w.heap.size ≤ gb184)); clear HB; have HB := n0_; have BK184 := n1_; have GW184 := n2_; have GE184 := n3_; clear n0_ n1_ n2_ n3_; clear hb hbox hg; have hcz6_0 := bc0 BK184.out; have hcz6_1 := bc1 BK184.out; have hfz6_0 := blk_frozen BK184.out 0; have hfz6_1 := blk_frozen BK184.out 1) | ((with_reducible refine gate_callee (f := 30) rfl ?_); refine goesL_ (some 8) rfl rfl Try.func30 (by kernel_rfl) rfl #[.slice A0_0 l0_0.length c0_0, .int .i64 a1] rfl gZ ?_; (with_reducible refine (laws_heldInt64S.calls k _ _ l0_0 a1 t185 _ ?side1 ?side2 A3.out).mono ?_); (case side1 => repeat (first | exact (Kd.C_below HR0_0.out HB.out) | (with_reducible refine Kd.C_alloc ?_ _) | (with_reducible refine Kd.C_drewN ?_ _) | (with_reducible refine Kd.C_drew ?_))); (case side2 => exact HC0_0.out); rintro e w' ⟨rfl, ⟨nd, rfl⟩⟩; refine ⟨_, rfl, ?_⟩))
  go_ret
  exact ⟨eZ, bZ⟩
 ·rw [if_neg c4] at H
  have c4b0 : decide (t185 < 0) = false := decide_eq_false c4
  clear c4
  replace H := Option.bind_eq_some_iff.mp H
  obtain ⟨t186, A70, H⟩ := H
  replace H : (if t186 < 0 then (some (-1)) else (some t186)) = some r := H
  have A7 := Aside0.mk A70
  clear A70
  by_cases c8 : t186 < 0
  ·rw [if_pos c8] at H
   have c8b0 : decide (t186 < 0) = true := decide_eq_true c8
   clear c8
   obtain rfl := Option.some.inj H
   go_enter Try.func29, Try.ntmps29
   go_wp2_with (first | ((with_reducible refine gate_dst (N := 2) rfl ?_); refine boxZ 2 #[.slice A0_0 l0_0.length c0_0, .slice A0_1 l0_1.length c0_1] 25 rfl rfl ?_; intro gb184 hg w9 hbox hb; have n0_ := Aside0.mk (below_step bZ hb); have n1_ := Aside0.mk (hbox); have n2_ := Aside0.mk ((by rw [hg]; exact bsZ : w.heap.size ≤ gb184)); have n3_ := Aside0.mk ((by rw [hg]; exact bsZ : w.heap.size ≤ gb184)); clear HB; have HB := n0_; have BK184 := n1_; have GW184 := n2_; have GE184 := n3_; clear n0_ n1_ n2_ n3_; clear hb hbox hg; have hcz10_0 := bc0 BK184.out; have hcz10_1 := bc1 BK184.out; have hfz10_0 := blk_frozen BK184.out 0; have hfz10_1 := blk_frozen BK184.out 1) | ((with_reducible refine gate_callee (f := 30) rfl ?_); refine goesL_ (some 8) rfl rfl Try.func30 (by kernel_rfl) rfl #[.slice A0_0 l0_0.length c0_0, .int .i64 a1] rfl gZ ?_; (with_reducible refine (laws_heldInt64S.calls k _ _ l0_0 a1 t185 _ ?side1 ?side2 A3.out).mono ?_); (case side1 => repeat (first | exact (Kd.C_below HR0_0.out HB.out) | (with_reducible refine Kd.C_alloc ?_ _) | (with_reducible refine Kd.C_drewN ?_ _) | (with_reducible refine Kd.C_drew ?_))); (case side2 => exact HC0_0.out); rintro e w' ⟨rfl, ⟨nd, rfl⟩⟩; refine ⟨_, rfl, ?_⟩) | ((with_reducible refine gate_callee (f := 49) rfl ?_); refine goesL_ (some 14) rfl rfl Try.func49 (by kernel_rfl) rfl #[.slice A0_1 l0_1.length c0_1, .int .i64 t185] rfl gZ ?_; (with_reducible refine (laws_heldPipeS.calls k _ _ l0_1 t185 t186 _ ?side1 ?side2 A7.out).mono ?_); (case side1 => repeat (first | exact (Kd.C_below HR0_1.out bZ) | (with_reducible refine Kd.C_alloc ?_ _) | (with_reducible refine Kd.C_drewN ?_ _) | (with_reducible refine Kd.C_drew ?_))); (case side2 => exact HC0_1.out); rintro e w11 ⟨rfl, hb⟩; refine ⟨_, rfl, ?_⟩; have n0_ := Aside0.mk (blk_below (g := gb184) (o := .cells #[.slice A0_0 l0_0.length c0_0, .slice A0_1 l0_1.length c0_1] 25 (0, 0)) (kZ BK184.out) hb); have n1_ := Aside0.mk (below_step bZ hb); clear BK184; clear HB; have BK184 := n0_; have HB := n1_; clear n0_ n1_; (try clear hb); (try clear hb2); (try clear hk); (try clear hi)))
   go_ret
   exact ⟨eZ, bZ⟩
  ·rw [if_neg c8] at H
   have c8b0 : decide (t186 < 0) = false := decide_eq_false c8
   clear c8
   obtain rfl := Option.some.inj H
   go_enter Try.func29, Try.ntmps29
   go_wp2_with (first | ((with_reducible refine gate_dst (N := 2) rfl ?_); refine boxZ 2 #[.slice A0_0 l0_0.length c0_0, .slice A0_1 l0_1.length c0_1] 25 rfl rfl ?_; intro gb184 hg w12 hbox hb; have n0_ := Aside0.mk (below_step bZ hb); have n1_ := Aside0.mk (hbox); have n2_ := Aside0.mk ((by rw [hg]; exact bsZ : w.heap.size ≤ gb184)); have n3_ := Aside0.mk ((by rw [hg]; exact bsZ : w.heap.size ≤ gb184)); clear HB; have HB := n0_; have BK184 := n1_; have GW184 := n2_; have GE184 := n3_; clear n0_ n1_ n2_ n3_; clear hb hbox hg; have hcz13_0 := bc0 BK184.out; have hcz13_1 := bc1 BK184.out; have hfz13_0 := blk_frozen BK184.out 0; have hfz13_1 := blk_frozen BK184.out 1) | ((with_reducible refine gate_callee (f := 30) rfl ?_); refine goesL_ (some 8) rfl rfl Try.func30 (by kernel_rfl) rfl #[.slice A0_0 l0_0.length c0_0, .int .i64 a1] rfl gZ ?_; (with_reducible refine (laws_heldInt64S.calls k _ _ l0_0 a1 t185 _ ?side1 ?side2 A3.out).mono ?_); (case side1 => repeat (first | exact (Kd.C_below HR0_0.out HB.out) | (with_reducible refine Kd.C_alloc ?_ _) | (with_reducible refine Kd.C_drewN ?_ _) | (with_reducible refine Kd.C_drew ?_))); (case side2 => exact HC0_0.out); rintro e w' ⟨rfl, ⟨nd, rfl⟩⟩; refine ⟨_, rfl, ?_⟩) | ((with_reducible refine gate_callee (f := 49) rfl ?_); refine goesL_ (some 14) rfl rfl Try.func49 (by kernel_rfl) rfl #[.slice A0_1 l0_1.length c0_1, .int .i64 t185] rfl gZ ?_; (with_reducible refine (laws_heldPipeS.calls k _ _ l0_1 t185 t186 _ ?side1 ?side2 A7.out).mono ?_); (case side1 => repeat (first | exact (Kd.C_below HR0_1.out bZ) | (with_reducible refine Kd.C_alloc ?_ _) | (with_reducible refine Kd.C_drewN ?_ _) | (with_reducible refine Kd.C_drew ?_))); (case side2 => exact HC0_1.out); rintro e w14 ⟨rfl, hb⟩; refine ⟨_, rfl, ?_⟩; have n0_ := Aside0.mk (blk_below (g := gb184) (o := .cells #[.slice A0_0 l0_0.length c0_0, .slice A0_1 l0_1.length c0_1] 25 (0, 0)) (kZ BK184.out) hb); have n1_ := Aside0.mk (below_step bZ hb); clear BK184; clear HB; have BK184 := n0_; have HB := n1_; clear n0_ n1_; (try clear hb); (try clear hb2); (try clear hk); (try clear hi)))
   go_ret
   exact ⟨eZ, bZ⟩
def laws_heldValveS.f (k : Nat) (l0 : List (S63)) (a1 : Int) : Option (Int) := if l0.length = 0 then some a1 else none
set_option maxHeartbeats 1000000 in
theorem laws_heldValveS.calls (k : Nat) (A0 : Option Addr) (c0 : Nat) (l0 : List (S63)) (a1 : Int) (r : Int) (w : World) (hr0 : Kd.C k63 w A0 l0.length l0) (hc0 : l0.length ≤ c0) (h : laws_heldValveS.f k l0 a1 = some r) :
  Calls Try.prog 31 #[.slice A0 l0.length c0, .int .i64 a1] w fun e w' => e = .returned (.int .i64 r) ∧ Below w.heap.size w w' := by
 unfold laws_heldValveS.f at h
 by_cases hl : l0.length = 0
 ·rw [if_pos hl] at h
  simp only [Option.some.injEq] at h
  subst h
  rw [hl]
  clear hr0 hc0
  go_enter Try.func31, Try.ntmps31
  go_wp2
  go_loopw [1, 5] (fun v1 v5 wr => v1 = .int .i64 a1 ∧ v5 = .int .i64 0 ∧ wr = w) (fun _ _ _ => 0)
  case atStart => exact ⟨rfl, rfl, rfl⟩
  case round =>
   obtain ⟨rfl, rfl, rfl⟩ := hrel
   go_wp2
   go_ret
   exact ⟨rfl, Below.refl _ _⟩
 ·rw [if_neg hl] at h
  exact absurd h (by simp)
end Go.Proofs.Ytckhjpjcimjclaa.XR
end
