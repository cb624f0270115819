/- The law FnExactNodeReport: part 6 of its texts, joined (wip/pack.py). -/
import Derived.Test.YtadaegehdcngdaaGreatDoorKFnExactNodeReporta
import Derived.Test.YtadaegehdcngdaaGreatDoorKFnExactNodeReportb
import Derived.Test.YtadaegehdcngdaaGreatDoorKFnExactNodeReportc
import Derived.Test.YtadaegehdcngdaaGreatDoorKFnExactNodeReportd
import Derived.Test.YtadaegehdcngdaaGreatDoorKFnExactNodeReporte
import Derived.Test.YtadaegehdcngdaaGreatDoorKFnExactNodeReportf
import Derived.Test.YtadaegehdcngdaaGreatDoorProg
import Derived.Lib.Builder
import Derived.Lib.Strings
import Derived.Lib.Slices
import Derived.Lib.Walk
import Derived.Lib.AppendStr
import Derived.Lib.UnsafeStr
import Derived.WalkKit
import Derived.Laws.Externs
import Derived.Laws.IdiomCopy
import Derived.Laws.BitsLemmas
import Derived.KernelRfl

section
namespace Go.Proofs.YtadaegehdcngdaaGreatDoor.XV
open Go.RowKit Go.Proofs.YtadaegehdcngdaaGreatDoorW.PrintWords Go.Proofs.YtadaegehdcngdaaGreatDoorW.PrintLast Go.Proofs.YtadaegehdcngdaaGreatDoorW.PrintMore
attribute [local go_sem] run_eql_slice_nil binOp_string_gtr' binOp_string_leq' binOp_string_geq' max2_int min2_int max_two min_two max_three min_three max_four min_four   -- for this text's walks alone
set_option linter.unusedVariables false
set_option linter.unusedSimpArgs false
def strings_Repeat.f (a0 : ByteArray) (a1 : Int) : Option (ByteArray) := if 0 ≤ a1 ∧ a1 ≤ 9223372036854775807 ∧ (a0.size : Int) * a1 ≤ 140737488355328 then some ⟨(Lib.repeatL a0.data.toList a1.toNat).toArray⟩ else none
theorem strings_Repeat.calls (a0 : ByteArray) (a1 : Int) (r : ByteArray) (w : World) (h : strings_Repeat.f a0 a1 = some r) :
  Calls Tryz.prog 73 #[.string a0, .int .i64 a1] w fun e w' => e = .returned (.string r) ∧ Below w.heap.size w w' := by
 unfold strings_Repeat.f at h
 by_cases hc : 0 ≤ a1 ∧ a1 ≤ 9223372036854775807 ∧ (a0.size : Int) * a1 ≤ 140737488355328
 ·rw [if_pos hc] at h
  obtain rfl := Option.some.inj h
  obtain ⟨n, rfl⟩ : ∃ n : Nat, a1 = n := ⟨a1.toNat, by omega⟩
  have h2 : a0.size * n ≤ 140737488355328 := by
   have := hc.2.2
   rw [← Int.natCast_mul] at this
   omega
  rw [Int.toNat_natCast]
  exact Tryz.strings_Repeat a0 n w (by omega) h2
 ·rw [if_neg hc] at h
  exact absurd h (by simp)
def strings_TrimRight.f (a0 : ByteArray) (a1 : ByteArray) : Option (ByteArray) := if a0.size ≤ 9223372036854775807 ∧ a1.data.toList = [32] then some ⟨(Lib.trimRightB a0.data.toList 32).toArray⟩ else none
theorem strings_TrimRight.calls (a0 : ByteArray) (a1 : ByteArray) (r : ByteArray) (w : World) (h : strings_TrimRight.f a0 a1 = some r) :
  Calls Tryz.prog 74 #[.string a0, .string a1] w fun e w' => e = .returned (.string r) ∧ Below w.heap.size w w' := by
 unfold strings_TrimRight.f at h
 by_cases hc : a0.size ≤ 9223372036854775807 ∧ a1.data.toList = [32]
 ·rw [if_pos hc] at h
  obtain rfl := Option.some.inj h
  have e : a1 = ⟨#[32]⟩ := ByteArray.ext (Array.ext' hc.2)
  subst e
  refine (Tryz.strings_TrimRight_one a0 32 (by decide) w hc.1).mono ?_
  rintro e w' ⟨rfl, rfl⟩
  exact ⟨rfl, Below.refl _ _⟩
 ·rw [if_neg hc] at h
  exact absurd h (by simp)
def impl_lineValid.f (k : Nat) (a0 : ByteArray) : Option (Bool) := if (a0.size : Int) ≤ 100 then ((impl_bytesWithin.f k a0 32 126).bind fun t263 => (some t263)) else (some false)
set_option maxHeartbeats 8000000 in
set_option maxRecDepth 100000 in
theorem impl_lineValid.calls (k : Nat) (a0 : ByteArray) (r : Bool) (w : World) (h : impl_lineValid.f k a0 = some r) :
  Calls Tryz.prog 155 #[.string a0] w fun e w' => e = .returned (.bool r) ∧ Drawn0 w w' := by
 have H : (if (a0.size : Int) ≤ 100 then ((impl_bytesWithin.f k a0 32 126).bind fun t263 => (some t263)) else (some false)) = some r := h
 clear h
 by_cases c2 : (a0.size : Int) ≤ 100
 ·rw [if_pos c2] at H
  have c2b0 : decide ((a0.size : Int) ≤ 100) = true := decide_eq_true c2
  have c2b1 : decide (a0.size ≤ 100) = true := decide_eq_true (by omega)
  clear c2
  replace H := Option.bind_eq_some_iff.mp H
  obtain ⟨t263, A30, H⟩ := H
  replace H : (some t263) = some r := H
  have A3 := Aside0.mk A30
  clear A30
  obtain rfl := Option.some.inj H
  go_enter Tryz.func155, Tryz.ntmps155
  go_wp2_with (first | (go_at_call 71; (with_reducible refine (impl_bytesWithin.calls k a0 32 126 t263 _ A3.out).mono ?_); rintro e w' ⟨rfl, ⟨nd, rfl⟩⟩))
  go_ret
  exact ⟨sZ, dZ⟩
 ·rw [if_neg c2] at H
  have c2b0 : decide ((a0.size : Int) ≤ 100) = false := decide_eq_false c2
  have c2b1 : decide (a0.size ≤ 100) = false := decide_eq_false (by omega)
  clear c2
  obtain rfl := Option.some.inj H
  go_enter Tryz.func155, Tryz.ntmps155
  go_wp2
  go_ret
  exact ⟨sZ, dZ⟩
def impl_ValidReport.l0 : Nat → List ByteArray → Int → Int → Option (Bool)
 | 0, _, _, _ => none
 | k + 1, x8, x9, x10 => if x10 < x9 then (if 0 ≤ x10 then (if x10 < (x8.length : Int) then ((impl_lineValid.f k (rdOf ByteArray.empty x8 x10)).bind fun t265 => (if t265 = true then (impl_ValidReport.l0 k x8 x9 (wrap64 (x10 + 1))) else (some false))) else (none)) else (none)) else (some true)
def impl_ValidReport.f (k : Nat) (l0 : List ByteArray) : Option (Bool) := if (l0.length : Int) > 200 then (some false) else (impl_ValidReport.l0 k l0 (l0.length : Int) 0)
set_option maxHeartbeats 8000000 in
set_option maxRecDepth 100000 in
theorem impl_ValidReport.calls (k : Nat) (A0 : Option Addr) (c0 : Nat) (l0 : List ByteArray) (r : Bool) (w : World) (hr0 : Kd.C Kd.string w A0 l0.length l0) (hc0 : l0.length ≤ c0) (h : impl_ValidReport.f k l0 = some r) :
  Calls Tryz.prog 114 #[.slice A0 l0.length c0] w fun e w' => e = .returned (.bool r) ∧ Drawn0 w w' := by
 have HR0 := Aside0.mk hr0
 have HC0 := Aside0.mk hc0
 clear hr0 hc0
 have H : (if (l0.length : Int) > 200 then (some false) else (impl_ValidReport.l0 k l0 (l0.length : Int) 0)) = some r := h
 clear h
 by_cases c2 : (l0.length : Int) > 200
 ·rw [if_pos c2] at H
  have c2b0 : decide (200 < (l0.length : Int)) = true := decide_eq_true c2
  have c2b1 : decide (200 < l0.length) = true := decide_eq_true (by omega)
  clear c2
  obtain rfl := Option.some.inj H
  go_enter Tryz.func114, Tryz.ntmps114
  go_wp2
  go_ret
  exact ⟨sZ, dZ⟩
 ·rw [if_neg c2] at H
  have c2b0 : decide (200 < (l0.length : Int)) = false := decide_eq_false c2
  have c2b1 : decide (200 < l0.length) = false := decide_eq_false (by omega)
  clear c2
  have H' := Aside0.mk H
  clear H
  go_enter Tryz.func114, Tryz.ntmps114
  go_wp2
  go_loopg [10] k (fun kq v10 w' => ∃ (x10_1 : Int), v10 = .int .i64 x10_1 ∧ Aside0 (impl_ValidReport.l0 kq l0 (l0.length : Int) x10_1 = some r) ∧ Aside0 (kq ≤ k) ∧ Drawn0 w w')
  case atStart => exact ⟨(0), sZ, H', ⟨Nat.le_refl _⟩, dZ⟩
  case round =>
   clear H'; (try clear c1); (try clear c2); (try clear c2b0); (try clear c2b1); (try clear p2)
   obtain ⟨x10_1, rfl, HA, HK1, ⟨m1, rfl⟩⟩ := hrel
   cases gk with
   | zero => exact absurd HA.out (by simp [impl_ValidReport.l0])
   | succ k1 =>
    have H := HA.out
    clear HA
    simp only [impl_ValidReport.l0] at H
    by_cases c3 : x10_1 < (l0.length : Int)
    ·rw [if_pos c3] at H
     have c3b0 : decide (x10_1 < (l0.length : Int)) = true := decide_eq_true c3
     clear c3
     by_cases c4 : 0 ≤ x10_1
     ·rw [if_pos c4] at H
      have c4b0 : decide (0 ≤ x10_1) = true := decide_eq_true c4
      clear c4
      by_cases c5 : x10_1 < (l0.length : Int)
      ·rw [if_pos c5] at H
       have c5b0 : decide (x10_1 < (l0.length : Int)) = true := decide_eq_true c5
       clear c5
       replace H := Option.bind_eq_some_iff.mp H
       obtain ⟨t265, A60, H⟩ := H
       replace H : (if t265 = true then (impl_ValidReport.l0 k1 l0 (l0.length : Int) (wrap64 (x10_1 + 1))) else (some false)) = some r := H
       have A6 := Aside0.mk A60
       clear A60
       by_cases c7 : t265 = true
       ·subst c7
        have H1 : (impl_ValidReport.l0 k1 l0 (l0.length : Int) (wrap64 (x10_1 + 1))) = some r := by rw [if_pos rfl] at H; exact H
        clear H
        have H := H1
        clear H1
        have H' := Aside0.mk H
        clear H
        have p264 : 0 ≤ (x10_1 : Int) := oZ
        have q264 : x10_1 < (l0.length : Int) := oZ
        obtain ⟨ad264, e264, hx264_0⟩ := Kd.at_string HR0.out x10_1 p264 q264
        cases e264
        replace p264 := eq_true p264
        replace q264 := eq_true q264
        go_wp2_with (first | ((with_reducible refine gate_callee (f := 155) rfl ?_); refine goesL_ (some 15) rfl rfl Tryz.func155 (by kernel_rfl) rfl #[.string (rdOf ByteArray.empty l0 x10_1)] rfl gZ ?_; (with_reducible refine (impl_lineValid.calls k1 (rdOf ByteArray.empty l0 x10_1) true _ A6.out).mono ?_); rintro e w' ⟨rfl, ⟨nd, rfl⟩⟩; refine ⟨_, rfl, ?_⟩))
        go_roundg k1
        case measure => have := HK1.out; omega
        case rel => exact ⟨(wrap64 (x10_1 + 1)), sZ, H', ⟨by have := HK1.out; omega⟩, dZ⟩
       ·replace c7 := Bool.eq_false_iff.mpr c7
        subst c7
        have H1 : (some false) = some r := by rw [if_neg (show ¬ (false = true) by decide)] at H; exact H
        clear H
        have H := H1
        clear H1
        obtain rfl := Option.some.inj H
        have p264 : 0 ≤ (x10_1 : Int) := oZ
        have q264 : x10_1 < (l0.length : Int) := oZ
        obtain ⟨ad264, e264, hx264_0⟩ := Kd.at_string HR0.out x10_1 p264 q264
        cases e264
        replace p264 := eq_true p264
        replace q264 := eq_true q264
        go_wp2_with (first | ((with_reducible refine gate_callee (f := 155) rfl ?_); refine goesL_ (some 15) rfl rfl Tryz.func155 (by kernel_rfl) rfl #[.string (rdOf ByteArray.empty l0 x10_1)] rfl gZ ?_; (with_reducible refine (impl_lineValid.calls k1 (rdOf ByteArray.empty l0 x10_1) false _ A6.out).mono ?_); rintro e w' ⟨rfl, ⟨nd, rfl⟩⟩; refine ⟨_, rfl, ?_⟩))
        go_ret
        exact ⟨sZ, dZ⟩
      ·rw [if_neg c5] at H
       exact absurd H (by simp)
     ·rw [if_neg c4] at H
      exact absurd H (by simp)
    ·rw [if_neg c3] at H
     have c3b0 : decide (x10_1 < (l0.length : Int)) = false := decide_eq_false c3
     clear c3
     obtain rfl := Option.some.inj H
     go_wp2
     go_ret
     exact ⟨sZ, dZ⟩
end Go.Proofs.YtadaegehdcngdaaGreatDoor.XV
end

section
namespace Go.Proofs.YtadaegehdcngdaaGreatDoor.XV
open Go.RowKit Go.Proofs.YtadaegehdcngdaaGreatDoorW.PrintWords Go.Proofs.YtadaegehdcngdaaGreatDoorW.PrintLast Go.Proofs.YtadaegehdcngdaaGreatDoorW.PrintMore
attribute [local go_sem] run_eql_slice_nil binOp_string_gtr' binOp_string_leq' binOp_string_geq' max2_int min2_int max_two min_two max_three min_three max_four min_four   -- for this text's walks alone
set_option linter.unusedVariables false
set_option linter.unusedSimpArgs false
def impl_reportOrFull.f (k : Nat) (l0 : List ByteArray) : Option (List ByteArray × Int) := (impl_ValidReport.f k l0).bind fun t266 => (if t266 = true then (some (l0, 0)) else (some (([] : List ByteArray), 5)))
set_option maxHeartbeats 8000000 in
set_option maxRecDepth 100000 in
theorem impl_reportOrFull.calls (k : Nat) (P0_ : Nat → Prop) (u9000_ : Value) (l0 : List ByteArray) (r1 : List ByteArray) (r2 : Int) (w0 w : World) (hB : Below w0.heap.size w0 w) (ho0 : Kd.R Kd.string 9 w w0.heap.size P0_ u9000_ l0) (h : impl_reportOrFull.f k l0 = some (r1, r2)) :
  Calls Tryz.prog 76 #[u9000_] w fun e w' => ∃ v0_ : Value, e = .returned (.tuple #[v0_, .int .i64 r2]) ∧ Kd.R Kd.string 9 w' w0.heap.size (fun k_ => (P0_ k_ ∨ w.heap.size ≤ k_)) v0_ r1 ∧ Below w0.heap.size w0 w' ∧ Kept w w' (fun k_ => P0_ k_) := by
 have HO0 := Aside0.mk (show Kd.R Kd.string 9 w w0.heap.size (fun k_ => (P0_ k_ ∨ w.heap.size ≤ k_)) u9000_ l0 from Kd.R_mono ho0 (fun k_ hk => (.inl hk)))
 have HK := Aside0.mk (Kept.refl w (fun k_ => P0_ k_))
 have HW0 := Aside0.mk hB.size
 have HB := Aside0.mk hB
 clear hB
 have H : ((impl_ValidReport.f k l0).bind fun t266 => (if t266 = true then (some (l0, 0)) else (some (([] : List ByteArray), 5)))) = some (r1, r2) := h
 clear h
 replace H := Option.bind_eq_some_iff.mp H
 obtain ⟨t266, A20, H⟩ := H
 replace H : (if t266 = true then (some (l0, 0)) else (some (([] : List ByteArray), 5))) = some (r1, r2) := H
 have A2 := Aside0.mk A20
 clear A20
 by_cases c3 : t266 = true
 ·subst c3
  have H1 : (some (l0, 0)) = some (r1, r2) := by rw [if_pos rfl] at H; exact H
  clear H
  have H := H1
  clear H1
  simp only [Option.some.injEq, Prod.mk.injEq] at H
  obtain ⟨rfl, rfl⟩ := H
  obtain ⟨Ao4, co4, eo4⟩ := Kd.R_slice HO0.out
  subst eo4
  go_enter Tryz.func76, Tryz.ntmps76
  go_wp2_with (first | ((with_reducible refine gate_callee (f := 114) rfl ?_); refine goesL_ (some 5) rfl rfl Tryz.func114 (by kernel_rfl) rfl #[.slice Ao4 l0.length co4] rfl gZ ?_; (with_reducible refine (impl_ValidReport.calls k _ _ l0 true _ ?side1 ?side2 A2.out).mono ?_); (case side1 => exact Kd.cZ HO0.out); (case side2 => exact (Kd.R_reads' HO0.out).2.1); rintro e w' ⟨rfl, ⟨nd, rfl⟩⟩; refine ⟨_, rfl, ?_⟩))
  go_ret2
  exact ⟨_, eZ, Kd.rZ HO0.out, bZ, by repeat (first | (with_reducible first | exact HK.out | apply Kept.alloc | apply Kept.drewN | apply Kept.drew) | exact HK.out)⟩
 ·replace c3 := Bool.eq_false_iff.mpr c3
  subst c3
  have H1 : (some (([] : List ByteArray), 5)) = some (r1, r2) := by rw [if_neg (show ¬ (false = true) by decide)] at H; exact H
  clear H
  have H := H1
  clear H1
  simp only [Option.some.injEq, Prod.mk.injEq] at H
  obtain ⟨rfl, rfl⟩ := H
  obtain ⟨Ao5, co5, eo5⟩ := Kd.R_slice HO0.out
  subst eo5
  go_enter Tryz.func76, Tryz.ntmps76
  go_wp2_with (first | ((with_reducible refine gate_callee (f := 114) rfl ?_); refine goesL_ (some 5) rfl rfl Tryz.func114 (by kernel_rfl) rfl #[.slice Ao5 l0.length co5] rfl gZ ?_; (with_reducible refine (impl_ValidReport.calls k _ _ l0 false _ ?side1 ?side2 A2.out).mono ?_); (case side1 => exact Kd.cZ HO0.out); (case side2 => exact (Kd.R_reads' HO0.out).2.1); rintro e w' ⟨rfl, ⟨nd, rfl⟩⟩; refine ⟨_, rfl, ?_⟩))
  go_ret2
  exact ⟨_, eZ, by first | exact Kd.R_nil _ _ _ _ _ | exact Kd.N_nil _ _ _ _ _ | exact Kd.V_nil _ _ _ _ _ | exact Kd.Q_nil _ _ _ _ _ | exact Kd.S_nil _ _ _ _ _, bZ, by repeat (first | (with_reducible first | exact HK.out | apply Kept.alloc | apply Kept.drewN | apply Kept.drew) | exact HK.out)⟩
end Go.Proofs.YtadaegehdcngdaaGreatDoor.XV
end

section
namespace Go.Proofs.YtadaegehdcngdaaGreatDoor.Bld
open Go.RowKit
set_option linter.unusedVariables false
set_option linter.unusedSimpArgs false
theorem infoByte : (Tryz.prog.info? 5).map (fun i => (i.zero, i.size, i.bytes)) = some (some (.int .u8 0), 1, 1) := by kernel_rfl
theorem sizeBuilder : (Tryz.prog.info? 101).map (·.size) = some 2 := by kernel_rfl
theorem liesBuilder : liesAt Tryz.prog Tryz.prog.depth 101 (2 / Tryz.prog.cellsOf 101) 0 101 1 = true := by kernel_rfl
set_option maxHeartbeats 1000000 in
set_option maxRecDepth 100000 in
theorem copyCheck_used (b : Nat) (w : World) (h0 : w.cell? ⟨b, 0, none⟩ = some (.pointer (some ⟨b, 0, none⟩))) :
    Calls Tryz.prog 105 #[.pointer (some ⟨b, 0, none⟩)] w fun e w' => e = .returned (.tuple #[]) ∧ w' = w := by
  obtain ⟨j, hj, _⟩ := Option.map_eq_some_iff.1 sizeBuilder
  go_enter Tryz.func105, Tryz.ntmps105
  go_wp2
  rw [Lib.run_neq_ptr_same w _ Tryz.underlying99 hj]
  go_wp2
  go_end0
  exact ⟨rfl, rfl⟩
set_option maxHeartbeats 1000000 in
set_option maxRecDepth 100000 in
theorem copyCheck_fresh (b : Nat) (w : World) (h0 : w.cell? ⟨b, 0, none⟩ = some (.pointer none)) (hsh : w.shape? b = some (101, 2)) (hfz : w.frozen? ⟨b, 0, none⟩ = false) :
    Calls Tryz.prog 105 #[.pointer (some ⟨b, 0, none⟩)] w fun e w' => e = .returned (.tuple #[]) ∧ w' = w.setCell ⟨b, 0, none⟩ (.pointer (some ⟨b, 0, none⟩)) := by
  obtain ⟨j, hj, hjs⟩ := Option.map_eq_some_iff.1 sizeBuilder
  go_enter Tryz.func105, Tryz.ntmps105
  go_wp2
  rw [Lib.run_to_unsafe w ⟨b, 0, none⟩ Tryz.underlying99 Tryz.underlying167 hj (by rw [hjs]; decide) hsh (Nat.zero_lt_succ 1)]
  simp only [Result.andThen]
  rw [Oper.upon_value]
  go_wp2
  rw [run_callFunc_extern Tryz.func147 (by kernel_rfl) (by kernel_rfl) (by kernel_rfl) (e := Extern.AbiNoEscape.same) (by kernel_rfl)]
  rw [Lib.run_noEscape]
  simp only [Result.andThen]
  rw [Oper.upon_value]
  go_wp2
  rw [Lib.run_from_unsafe w ⟨b, 0, none⟩ Tryz.underlying167 Tryz.underlying99 hj hsh liesBuilder]
  simp only [Result.andThen]
  rw [Oper.upon_value]
  go_wp2
  go_end0
  exact ⟨rfl, rfl⟩
theorem copyCheck (B b : Nat) (bs : List Value) (w : World) (h : Lib.IsBuilder 101 5 B b bs w) :
    Calls Tryz.prog 105 #[.pointer (some ⟨b, 0, none⟩)] w fun e w' => e = .returned (.tuple #[]) ∧ (Lib.BuilderAt 101 5 B b (.pointer (some ⟨b, 0, none⟩)) bs w' ∧ Below B w w') := by
  rcases h with h | h
  · refine (copyCheck_fresh b w h.cell0 h.shape h.frozen0).mono ?_
    rintro e w' ⟨rfl, rfl⟩
    exact ⟨rfl, h.used _, (Below.refl B w).setCell (p := ⟨b, 0, none⟩) h.1 _⟩
  · refine (copyCheck_used b w h.cell0).mono ?_
    rintro e w' ⟨rfl, rfl⟩
    exact ⟨rfl, h, Below.refl B _⟩
set_option maxHeartbeats 2000000 in
set_option maxRecDepth 100000 in
theorem writeString (B b : Nat) (bs : List Value) (s : ByteArray) (w : World) (h : Lib.IsBuilder 101 5 B b bs w) (hlen : bs.length + s.size ≤ 140737488355328) (hBw : B ≤ w.heap.size) :
    Calls Tryz.prog 72 #[.pointer (some ⟨b, 0, none⟩), .string s] w fun e w' => e = .returned (.tuple #[.int .i64 s.size, .nilIface]) ∧ (Lib.BuilderAt 101 5 B b (.pointer (some ⟨b, 0, none⟩)) (bs ++ Lib.strCells s) w' ∧ Below B w w') := by
  obtain ⟨i0, hi, hz0, hz1, hz2⟩ := info_parts infoByte
  go_enter Tryz.func72, Tryz.ntmps72
  go_wp2_with (go_at_call 105; refine (copyCheck B b bs _ h).mono ?_)
  rintro e w1 ⟨rfl, h1, hb1⟩
  obtain ⟨hB, v, hbk, hown, hne⟩ := h1
  have c0 : w1.cell? ⟨b, 0, none⟩ = some (.pointer (some ⟨b, 0, none⟩)) := by rw [Lib.cell_of_heap hbk]; rfl
  have c1 : w1.cell? ⟨b, 1, none⟩ = some v := by rw [Lib.cell_of_heap hbk]; rfl
  go_wp2_with (at_builtin; refine Lib.wpList_append_own_string _ rfl _ _ 42 9 rfl B 5 i0 Tryz.underlying42 Tryz.underlying9 hi hz0 hz1 hz2 _ _ _ rfl hown s rfl ?c3 ?c4 ?c5 ?_)
  case c3 => unfold maxLen; omega
  case c4 => omega
  case c5 => have := hb1.size; omega
  intro v' w2 hown' hgrow _
  have hlt : b < w1.heap.size := by
    rcases Nat.lt_or_ge b w1.heap.size with h' | h'
    · exact h'
    · simp [Array.getElem?_eq_none h'] at hbk
  have hb2 : w2.heap[b]? = some (.cells #[.pointer (some ⟨b, 0, none⟩), v] 101 (0, 0)) := by
    rw [hgrow.block b hlt (fun e => hne e.symm)]
    exact hbk
  have d0 : w2.cell? ⟨b, 0, none⟩ = some (.pointer (some ⟨b, 0, none⟩)) := by rw [Lib.cell_of_heap hb2]; rfl
  have d1 : w2.cell? ⟨b, 1, none⟩ = some v := by rw [Lib.cell_of_heap hb2]; rfl
  have f1 : w2.frozen? ⟨b, 1, none⟩ = false := Lib.frozen_of_heap hb2 1
  obtain ⟨ao, n', cap, rfl⟩ : ∃ ao n' cap, v' = .slice ao n' cap := by
    rcases hown'.2 with ⟨hv, _⟩ | ⟨g, cap, cur, hv, _⟩
    · exact ⟨_, _, _, hv⟩
    · exact ⟨_, _, _, hv⟩
  go_wp2
  go_ret2
  refine ⟨rfl, ?_, ?_⟩
  · exact Lib.BuilderAt.put (T := 101) (e := 5) hB hb2 (bs' := bs ++ Lib.strCells s) (by simpa [Lib.strCells_length] using hown') (by decide)
  · exact (hb1.grown hgrow (by have := hb1.size; omega) (fun k hk => (hown.lt k hk).1)).setCell (p := ⟨b, 1, none⟩) hB _
end Go.Proofs.YtadaegehdcngdaaGreatDoor.Bld
end

section
namespace Go.Proofs.YtadaegehdcngdaaGreatDoor.XV
open Go.RowKit Go.Proofs.YtadaegehdcngdaaGreatDoorW.PrintWords Go.Proofs.YtadaegehdcngdaaGreatDoorW.PrintLast Go.Proofs.YtadaegehdcngdaaGreatDoorW.PrintMore
attribute [local go_sem] run_eql_slice_nil binOp_string_gtr' binOp_string_leq' binOp_string_geq' max2_int min2_int max_two min_two max_three min_three max_four min_four   -- for this text's walks alone
set_option linter.unusedVariables false
set_option linter.unusedSimpArgs false
def impl_TableLines.big (ws : List Int) (i : Nat) (c : ByteArray) : Int := if rdOf 0 ws (i : Int) < (c.size : Int) then (c.size : Int) else rdOf 0 ws (i : Int)
def impl_TableLines.wrow (k : Nat) : List ByteArray → Nat → List Int → Option (Option (List Int))
 | [], _, ws => some (some ws)
 | c :: l, i, ws => (impl_bytesWithin.f k c 33 126).bind fun b => if b = true then impl_TableLines.wrow k l (i + 1) (ws.set i (impl_TableLines.big ws i c)) else some none
def impl_TableLines.wrows (k : Nat) : List (List ByteArray) → List Int → Option (Option (List Int))
 | [], ws => some (some ws)
 | r :: l, ws => if r.length ≤ 12 then (impl_TableLines.wrow k r 0 ws).bind fun o => match o with
   | none => some none
   | some ws' => impl_TableLines.wrows k l ws'
  else some none
def impl_TableLines.gap (ws : List Int) (i : Nat) (c : ByteArray) : Int := rdOf 0 ws (i : Int) - (c.size : Int) + 2
def impl_TableLines.cellsT (ws : List Int) : List ByteArray → Nat → ByteArray → Option ByteArray
 | [], _, a => some a
 | c :: l, i, a => if 0 ≤ impl_TableLines.gap ws i c ∧ impl_TableLines.gap ws i c ≤ 1099511627776 then (strings_Repeat.f (⟨#[32]⟩ : ByteArray) (impl_TableLines.gap ws i c)).bind fun sp => if c.size + sp.size ≤ 9223372036854775807 ∧ a.size + (c ++ sp).size ≤ 140737488355328 then impl_TableLines.cellsT ws l (i + 1) (a ++ (c ++ sp)) else none else none
def impl_TableLines.linesT (ws : List Int) : List (List ByteArray) → List ByteArray → Option (List ByteArray)
 | [], out => some out
 | r :: l, out => if r.length ≤ 12 then (impl_TableLines.cellsT ws r 0 ⟨#[]⟩).bind fun t => (strings_TrimRight.f t (⟨#[32]⟩ : ByteArray)).bind fun u => if out.length < 8796093022208 then impl_TableLines.linesT ws l (out ++ [u]) else none else none
def impl_TableLines.f (k : Nat) (l0 : List (List ByteArray)) : Option (List ByteArray × Int) := (impl_TableLines.wrows k l0 (List.replicate 12 0)).bind fun o => match o with
 | none => some ([], 2)
 | some ws => (impl_TableLines.linesT ws l0 []).bind fun ls => impl_reportOrFull.f k ls
theorem impl_TableLines.builder_below {T e B b : Nat} {bs : List Value} {w w' : World} (h : Lib.IsBuilder T e B b bs w) (hb : Below w.heap.size w w') : Lib.IsBuilder T e B b bs w' := by
 rcases h with ⟨h1, v, h2, h3, h4⟩ | ⟨h1, v, h2, h3, h4⟩
 ·exact .inl ⟨h1, v, blk_below h2 hb, pw_own_below h3 hb, h4⟩
 ·exact .inr ⟨h1, v, blk_below h2 hb, pw_own_below h3 hb, h4⟩
theorem impl_TableLines.builder0 (w1 : World) : Lib.IsBuilder 101 5 w1.heap.size w1.heap.size (Lib.byteCells (⟨#[]⟩ : ByteArray).data.toList) (w1.alloc (Obj.cells #[Value.pointer none, Value.slice none 0 0] 101)) :=
 .inl ⟨Nat.le_refl _, .slice none 0 0, by simpa using heap_alloc_new w1 _, by simp [Lib.byteCells]; exact World.ownsRow_nil _ _ _ _, by simp [Value.ownBlock]⟩
theorem impl_TableLines.app (a x : ByteArray) : Lib.byteCells (a ++ x).data.toList = Lib.byteCells a.data.toList ++ Lib.strCells x := by
 rw [Lib.strCells_eq, ← Lib.byteCells_append]
 first | (congr 1; done) | (congr 1; simp [ByteArray.data_append])
theorem impl_TableLines.row_at {w wr : World} {A0 : Option Addr} {l0 : List (List ByteArray)} (hr : Kd.C (Kd.slice 9 Kd.string) w A0 l0.length l0) (hb : Below w.heap.size w wr) (i : Nat) (hi : i < l0.length) :
  ∃ ad A1 c1, A0 = some ad ∧ wr.cell? (ad.add i) = some (.slice A1 l0[i].length c1) ∧ l0[i].length ≤ c1 ∧ Kd.string.C w A1 l0[i].length l0[i] := by
 obtain ⟨ad, c, e, _, hK, hc⟩ := Kd.C_get hr ([] : List ByteArray) (i : Int) (by omega) (by omega)
 rw [Int.toNat_natCast] at hc hK
 have e1 : l0.getD i [] = l0[i] := by simp [List.getD_eq_getElem?_getD, List.getElem?_eq_getElem hi]
 obtain ⟨A1, c1, rfl, hl, hC⟩ := hK
 have e2 : rdOf ([] : List ByteArray) l0 (i : Int) = l0[i] := e1
 have h0 := hc 0 _ rfl
 have h1 : w.cell? (ad.add i) = some (.slice A1 l0[i].length c1) := by
  have : i * (Kd.slice 9 Kd.string).sz + 0 = i := Nat.mul_one i
  rw [this] at h0
  first | (rw [e1] at h0; exact h0) | (rw [e2] at h0; exact h0)
 refine ⟨ad, A1, c1, e, (hb.cell (World.block_lt_of_cell? w _ h1)).trans h1, ?_, ?_⟩
 ·first | (rw [e1] at hl; exact hl) | (rw [e2] at hl; exact hl)
 ·first | (rw [e1] at hC; exact hC) | (rw [e2] at hC; exact hC)
theorem impl_TableLines.cell_at {w wr : World} {A1 : Option Addr} {r : List ByteArray} (hr : Kd.string.C w A1 r.length r) (hb : Below w.heap.size w wr) (j : Nat) (hj : j < r.length) : ∃ ad, A1 = some ad ∧ wr.cell? (ad.add j) = some (.string r[j]) := by
 obtain ⟨ad, e, h⟩ := Kd.at_string hr (j : Int) (by omega) (by omega)
 rw [Int.toNat_natCast] at h
 have e1 : rdOf ByteArray.empty r (j : Int) = r[j] := by unfold rdOf; simp [List.getD_eq_getElem?_getD, List.getElem?_eq_getElem hj]
 rw [e1] at h
 exact ⟨ad, e, (hb.cell (World.block_lt_of_cell? w _ h)).trans h⟩
theorem impl_TableLines.put {W : World} {base g cw : Nat} {ws : List Int} (hl : ws.length = 12) (h : Kd.R (Kd.int .i64) 3 W base (fun _ => True) (.slice (some ⟨g, 0, none⟩) 12 cw) ws) (j : Nat) (x : Int) : Kd.R (Kd.int .i64) 3 (W.setCell ⟨g, j, none⟩ (.int .i64 x)) base (fun _ => True) (.slice (some ⟨g, 0, none⟩) 12 cw) (ws.set j x) := by
 have h1 : Kd.R (Kd.int .i64) 3 W base (fun _ => True) (.slice (some ⟨g, 0, none⟩) ws.length cw) ws := by rw [hl]; exact h
 have h2 := (Kd.R_put h1 (j : Int) x).1
 rw [hl] at h2
 exact h2
theorem impl_TableLines.wr1 {i n : Nat} (h : i < n) (hn : n ≤ 9223372036854775807) : wrap64 ((i : Int) + 1) = (i : Int) + 1 := by unfold wrap64; omega
theorem impl_TableLines.meas {i n : Nat} (h : i < n) (hn : n ≤ 9223372036854775807) : n - (intOf (Value.int .i64 (wrap64 ((i : Int) + 1)))).toNat < n - (intOf (Value.int .i64 (i : Int))).toNat := by
 rw [impl_TableLines.wr1 h hn]
 show n - ((i : Int) + 1).toNat < n - ((i : Int)).toNat
 omega
theorem impl_TableLines.wr2 {x : Int} (h : 0 ≤ x + 2 ∧ x + 2 ≤ 1099511627776) : wrap64 x = x ∧ wrap64 (x + 2) = x + 2 := by unfold wrap64; omega
set_option maxHeartbeats 4000000 in
set_option maxRecDepth 100000 in
theorem impl_TableLines.calls (k : Nat) (A0 : Option Addr) (c0 : Nat) (l0 : List (List ByteArray)) (r1 : List ByteArray) (r2 : Int) (w : World) (hr0 : Kd.C (Kd.slice 9 Kd.string) w A0 l0.length l0) (hc0 : l0.length ≤ c0) (h : impl_TableLines.f k l0 = some (r1, r2)) :
  Calls Tryz.prog 42 #[.slice A0 l0.length c0] w fun e w' => ∃ v0_ : Value, e = .returned (.tuple #[v0_, .int .i64 r2]) ∧ Kd.R Kd.string 9 w' w.heap.size (fun _ => True) v0_ r1 ∧ Below w.heap.size w w' := by
 obtain ⟨o, ho, h⟩ := Option.bind_eq_some_iff.mp h
 have HM := Aside0.mk hr0.2.1
 have HR := Aside0.mk hr0
 have HC := Aside0.mk hc0
 have HO := Aside0.mk ho
 have HN := Aside0.mk h
 clear hr0 hc0 ho h
 go_enter Tryz.func42, Tryz.ntmps42
 go_wp2_with ((with_reducible refine gate_dst (N := 15) rfl ?_); go_loud (refine Kd.R_make (Kd.int .i64) w.heap.size 3 rfl (N := 15) rfl 93 _ _ rfl 12 rfl rfl Tryz.underlying93 (.int .i64 0) 8 info3 rfl (by decide) (by omega) (0 : Int) (ok := fun _ => True) (okp := fun _ => True) rfl (fun _ hk => hk) trivial (by omega) (by omega) (Below.refl _ _) (Nat.le_refl _) ?_; intro vw w1 hw hb hg_ hnew_; have HW := Aside0.mk hw; have HB := Aside0.mk hb; clear hw hb hg_ hnew_))
 obtain ⟨gw, cw, rfl⟩ : ∃ gw cw, vw = Value.slice (some ⟨gw, 0, none⟩) 12 cw := by
  obtain ⟨g, cap, e, _⟩ := Kd.R_form HW.out (by simp)
  exact ⟨g, cap, by simpa using e⟩
 have HW0 : Aside0 (Kd.R (Kd.int .i64) 3 w1 w.heap.size (fun _ => True) (.slice (some ⟨gw, 0, none⟩) 12 cw) (List.replicate 12 0)) := ⟨HW.out⟩
 clear HW
 go_loopw [18] (fun v wr => ∃ (i : Nat) (ws : List Int), i ≤ l0.length ∧ v = .int .i64 i ∧ ws.length = 12 ∧ Aside0 (Kd.R (Kd.int .i64) 3 wr w.heap.size (fun _ => True) (.slice (some ⟨gw, 0, none⟩) 12 cw) ws) ∧ Aside0 (impl_TableLines.wrows k (l0.drop i) ws = some o) ∧ Aside0 (Below w.heap.size w wr)) (fun v _ => l0.length - (intOf v).toNat)
 case atStart => exact ⟨0, _, Nat.zero_le _, rfl, by simp, HW0, HO, HB⟩
 case round =>
  as_aux_lemma =>
   obtain ⟨i, ws, hi, rfl, hwl, hW, hO, hB⟩ := hrel
   clear HW0 HB HO
   have hmax := HM.out
   by_cases hlt : i < l0.length
   ·obtain ⟨ad, A1, c1, e, hx, hl1, hC1⟩ := impl_TableLines.row_at HR.out hB.out i hlt
    subst e
    have ho := hO.out
    rw [List.drop_eq_getElem_cons hlt] at ho
    generalize l0[i] = r at hx hl1 hC1 ho
    unfold impl_TableLines.wrows at ho
    by_cases h12 : r.length ≤ 12
    ·rw [if_pos h12] at ho
     obtain ⟨o1, ho1, ho2⟩ := Option.bind_eq_some_iff.mp ho
     have HO1 := Aside0.mk ho1
     have HO2 := Aside0.mk ho2
     have HC1 := Aside0.mk hC1
     have H12 := Aside0.mk h12
     have HLT := Aside0.mk hlt
     have HWL := Aside0.mk hwl
     have c12 : decide ((12 : Int) < (r.length : Int)) = false := decide_eq_false (by omega)
     clear ho ho1 ho2 hC1
     go_wp2
     clear hx hl1 c12 hlt hwl h12
     go_loopw [27] (fun v wr2 => ∃ (j : Nat) (ws2 : List Int), j ≤ r.length ∧ v = .int .i64 j ∧ ws2.length = 12 ∧ Aside0 (Kd.R (Kd.int .i64) 3 wr2 w.heap.size (fun _ => True) (.slice (some ⟨gw, 0, none⟩) 12 cw) ws2) ∧ Aside0 (impl_TableLines.wrow k (r.drop j) j ws2 = some o1) ∧ Aside0 (Below w.heap.size w wr2)) (fun v _ => r.length - (intOf v).toNat)
     case atStart => exact ⟨0, ws, Nat.zero_le _, rfl, HWL.out, hW, HO1, hB⟩
     case round =>
      as_aux_lemma =>
       obtain ⟨j, ws2, hj, rfl, hwl2, hW2, hO1, hB2⟩ := hrel
       clear hW hB HO1
       have h12 := H12.out
       by_cases hlt2 : j < r.length
       ·as_aux_lemma =>
         obtain ⟨ad2, e2, hx2⟩ := impl_TableLines.cell_at HC1.out hB2.out j hlt2
         subst e2
         have ho := hO1.out
         rw [List.drop_eq_getElem_cons hlt2] at ho
         generalize r[j] = c at hx2 ho
         unfold impl_TableLines.wrow at ho
         obtain ⟨b, hb, ho⟩ := Option.bind_eq_some_iff.mp ho
         have HBW := Aside0.mk hb
         have HLT2 := Aside0.mk hlt2
         have HWL2 := Aside0.mk hwl2
         cases b with
         | false =>
          as_aux_lemma =>
           simp only [Bool.false_eq_true, if_false] at ho
           obtain rfl := Option.some.inj ho
           clear ho hb
           have hn := HO2.out
           simp only at hn
           obtain rfl := Option.some.inj hn
           have hn2 := HN.out
           simp only [Option.some.injEq, Prod.mk.injEq] at hn2
           obtain ⟨rfl, rfl⟩ := hn2
           clear hn
           go_wp2_with (go_at_call 71; go_loud ((with_reducible refine (impl_bytesWithin.calls k c 33 126 false _ HBW.out).mono ?_); rintro e w2 ⟨rfl, ⟨nd, rfl⟩⟩))
           go_ret2
           exact ⟨_, rfl, Kd.R_nil _ _ _ _ _, pw_below_drewN hB2.out _⟩
         | true =>
          as_aux_lemma =>
           simp only [if_true] at ho
           have HO3 := Aside0.mk ho
           clear ho hb
           have hcl : ∀ nd, (wr.drewN nd).cell? ⟨gw, j, none⟩ = some (.int .i64 (rdOf 0 ws2 (j : Int))) := fun nd => by
            have h1 := (Kd.R_celln (0 : Int) hW2.out (j : Int) (by omega) (by omega)).1
            exact h1
           have hfz : ∀ nd, (wr.drewN nd).frozen? ⟨gw, j, none⟩ = false := fun nd => by
            have h1 := (Kd.R_celln (0 : Int) hW2.out (j : Int) (by omega) (by omega)).2
            exact h1
           have hj12 : (j : Int) < 12 := by omega
           have hj12n : j < 12 := by omega
           have hgw : w.heap.size ≤ gw := Kd.R_base hW2.out gw (by simp [Value.ownBlock])
           have HGW := Aside0.mk hgw
           clear hwl2 hgw
           go_wp2_with (go_at_call 71; go_loud ((with_reducible refine (impl_bytesWithin.calls k c 33 126 true _ HBW.out).mono ?_); rintro e w2 ⟨rfl, ⟨nd, rfl⟩⟩; have hcl2 := hcl nd; have hfz2 := hfz nd; have HND := Aside0.mk (Kd.R_drewN hW2.out nd); have HBD := Aside0.mk (pw_below_drewN hB2.out nd); clear hcl hfz))
           go_roundw
           case rel => exact ⟨j + 1, _, by have := HLT2.out; omega, by go_num, by rw [List.length_set]; exact HWL2.out, ⟨impl_TableLines.put HWL2.out HND.out j _⟩, HO3, ⟨below_set HBD.out HGW.out⟩⟩
           case measure => have := HLT2.out; simp [intOf]; omega
       ·as_aux_lemma =>
         have hjl : j = r.length := by omega
         have ho := hO1.out
         rw [hjl, List.drop_length] at ho
         have ho1 : some ws2 = o1 := Option.some.inj ho
         have hn := HO2.out
         rw [← ho1] at hn
         have HO4 : Aside0 (impl_TableLines.wrows k (l0.drop (i + 1)) ws2 = some o) := ⟨hn⟩
         clear ho ho1 hn
         have c28 : ¬ ((j : Int) < (r.length : Int)) := by omega
         have hwi : wrap64 ((i : Int) + 1) = (i : Int) + 1 := impl_TableLines.wr1 HLT.out HM.out
         go_wp2
         go_roundw
         case rel => exact ⟨i + 1, ws2, by have := HLT.out; omega, by go_num, hwl2, hW2, HO4, hB2⟩
         case measure => exact impl_TableLines.meas HLT.out HM.out
    ·rw [if_neg h12] at ho
     obtain rfl := Option.some.inj ho
     have hn2 := HN.out
     simp only [Option.some.injEq, Prod.mk.injEq] at hn2
     obtain ⟨rfl, rfl⟩ := hn2
     have c12 : decide ((12 : Int) < (r.length : Int)) = true := decide_eq_true (by omega)
     clear ho
     go_wp2
     go_ret2
     exact ⟨_, rfl, Kd.R_nil _ _ _ _ _, hB.out⟩
   ·have hil : i = l0.length := by omega
    have ho := hO.out
    rw [hil, List.drop_length] at ho
    have ho1 : some ws = o := Option.some.inj ho
    have hn := HN.out
    rw [← ho1] at hn
    obtain ⟨ls, hls, hn⟩ := Option.bind_eq_some_iff.mp hn
    have HLS := Aside0.mk hls
    have HRF := Aside0.mk hn
    have HWL := Aside0.mk hwl
    clear ho ho1 hn hls hwl
    go_wp2
    go_loopw [49, 9] (fun v v9 wr3 => ∃ (i : Nat) (out : List ByteArray), i ≤ l0.length ∧ v = .int .i64 i ∧ Aside0 (Kd.R Kd.string 9 wr3 w.heap.size (fun _ => True) v9 out) ∧ Aside0 (Kd.R (Kd.int .i64) 3 wr3 w.heap.size (fun _ => True) (.slice (some ⟨gw, 0, none⟩) 12 cw) ws) ∧ Aside0 (impl_TableLines.linesT ws (l0.drop i) out = some ls) ∧ Aside0 (Below w.heap.size w wr3)) (fun v _ _ => l0.length - (intOf v).toNat)
    case atStart => exact ⟨0, [], Nat.zero_le _, rfl, ⟨Kd.R_nil _ _ _ _ _⟩, hW, HLS, hB⟩
    case round =>
     as_aux_lemma =>
      obtain ⟨i2, out, hi2, rfl, hOut, hW3, hO3, hB3⟩ := hrel
      clear hW hB HLS
      by_cases hlt : i2 < l0.length
      ·obtain ⟨ad, A1, c1, e, hx, hl1, hC1⟩ := impl_TableLines.row_at HR.out hB3.out i2 hlt
       subst e
       have ho := hO3.out
       rw [List.drop_eq_getElem_cons hlt] at ho
       generalize l0[i2] = r at hx hl1 hC1 ho
       unfold impl_TableLines.linesT at ho
       by_cases h12 : r.length ≤ 12
       rotate_left
       ·rw [if_neg h12] at ho; cases ho
       rw [if_pos h12] at ho
       obtain ⟨t, ht, ho⟩ := Option.bind_eq_some_iff.mp ho
       obtain ⟨u, hu, ho⟩ := Option.bind_eq_some_iff.mp ho
       by_cases hol : out.length < 8796093022208
       rotate_left
       ·rw [if_neg hol] at ho; cases ho
       rw [if_pos hol] at ho
       have HT := Aside0.mk ht
       have HU := Aside0.mk hu
       have HNX := Aside0.mk ho
       have HOL := Aside0.mk hol
       have HC1 := Aside0.mk hC1
       have H12 := Aside0.mk h12
       have HLT := Aside0.mk hlt
       clear ht hu ho hol hC1
       obtain ⟨wo, hwo⟩ : ∃ wo : World, wo = wr := ⟨_, rfl⟩
       subst hwo
       have HI0 := Aside0.mk (impl_TableLines.builder0 wo)
       go_wp2
       clear hx hl1 hlt h12
       go_loopw [55] (fun v wr4 => ∃ (j : Nat) (acc : ByteArray), j ≤ r.length ∧ v = .int .i64 j ∧ Aside0 (Lib.IsBuilder 101 5 wo.heap.size wo.heap.size (Lib.byteCells acc.data.toList) wr4) ∧ Aside0 (impl_TableLines.cellsT ws (r.drop j) j acc = some t) ∧ Aside0 (Below wo.heap.size wo wr4) ∧ Aside0 (wo.heap.size ≤ wr4.heap.size)) (fun v _ => r.length - (intOf v).toNat)
       case atStart => exact ⟨0, _, Nat.zero_le _, rfl, HI0, HT, ⟨(Below.refl _ _).alloc (Nat.le_refl _) _⟩, ⟨by simp⟩⟩
       case round =>
        as_aux_lemma =>
         obtain ⟨j, acc, hj, rfl, hI, hT, hBb, hSz⟩ := hrel
         clear HI0 HT
         have h12 := H12.out
         have HBA := Aside0.mk (hB3.out.trans (hBb.out.mono hB3.out.size))
         have HWA := Aside0.mk (Kd.R_below hW3.out hBb.out)
         by_cases hlt2 : j < r.length
         ·as_aux_lemma =>
           obtain ⟨ad2, e2, hx2⟩ := impl_TableLines.cell_at HC1.out HBA.out j hlt2
           subst e2
           have ho := hT.out
           rw [List.drop_eq_getElem_cons hlt2] at ho
           generalize r[j] = c at hx2 ho
           unfold impl_TableLines.cellsT impl_TableLines.gap at ho
           by_cases hgp : 0 ≤ rdOf 0 ws (j : Int) - (c.size : Int) + 2 ∧ rdOf 0 ws (j : Int) - (c.size : Int) + 2 ≤ 1099511627776
           rotate_left
           ·rw [if_neg hgp] at ho; cases ho
           rw [if_pos hgp] at ho
           obtain ⟨sp, hsp, ho⟩ := Option.bind_eq_some_iff.mp ho
           by_cases hsz : c.size + sp.size ≤ 9223372036854775807 ∧ acc.size + (c ++ sp).size ≤ 140737488355328
           rotate_left
           ·rw [if_neg hsz] at ho; cases ho
           rw [if_pos hsz] at ho
           have HSP := Aside0.mk hsp
           have HNX2 := Aside0.mk ho
           have HLT2 := Aside0.mk hlt2
           have HAX := Aside0.mk (show (Lib.byteCells acc.data.toList).length + (c ++ sp).size ≤ 140737488355328 by
            rw [Lib.byteCells_length]
            have : acc.data.toList.length = acc.size := by simp
            omega)
           have z1 := hsz.1
           have hw1 : wrap64 (rdOf 0 ws (j : Int) - (c.size : Int)) = rdOf 0 ws (j : Int) - (c.size : Int) := (impl_TableLines.wr2 hgp).1
           have hw2 : wrap64 (rdOf 0 ws (j : Int) - (c.size : Int) + 2) = rdOf 0 ws (j : Int) - (c.size : Int) + 2 := (impl_TableLines.wr2 hgp).2
           have hcl : wr.cell? ⟨gw, j, none⟩ = some (.int .i64 (rdOf 0 ws (j : Int))) := (Kd.R_celln (0 : Int) HWA.out (j : Int) (by omega) (by omega)).1
           have hj12 : (j : Int) < 12 := by omega
           have hj12n : j < 12 := by omega
           clear ho hsp hgp hsz
           go_wp2_with (first
            | (go_at_call 73; go_loud ((with_reducible refine (strings_Repeat.calls (⟨#[32]⟩ : ByteArray) _ sp _ HSP.out).mono ?_); rintro e w4 ⟨rfl, hb4⟩; have HI4 := Aside0.mk (impl_TableLines.builder_below hI.out hb4); have HB4 := Aside0.mk (hBb.out.trans (hb4.mono hSz.out)); have HS4 := Aside0.mk (Nat.le_trans hSz.out hb4.size); clear hb4))
            | (go_at_call 72; go_loud (refine (Bld.writeString wo.heap.size wo.heap.size _ (c ++ sp) _ HI4.out HAX.out HS4.out).mono ?_; rintro e w5 ⟨rfl, hI5, hb5⟩; have HI5 := Aside0.mk hI5; have HB5 := Aside0.mk hb5; clear hI5 hb5)))
           have HI6 : Aside0 (Lib.IsBuilder 101 5 wo.heap.size wo.heap.size (Lib.byteCells (acc ++ (c ++ sp)).data.toList) w5) := ⟨.inr (by rw [impl_TableLines.app]; exact HI5.out)⟩
           have HB6 := Aside0.mk (HB4.out.trans HB5.out)
           have HS6 := Aside0.mk (Nat.le_trans HS4.out HB5.out.size)
           go_roundw
           case rel => exact ⟨j + 1, _, by have := HLT2.out; omega, by go_num, HI6, HNX2, HB6, HS6⟩
           case measure => have := HLT2.out; simp [intOf]; omega
         ·as_aux_lemma =>
           have hjl : j = r.length := by omega
           have ho := hT.out
           rw [hjl, List.drop_length] at ho
           have ho1 : acc = t := Option.some.inj ho
           have HU2 : Aside0 (strings_TrimRight.f acc (⟨#[32]⟩ : ByteArray) = some u) := ⟨by rw [ho1]; exact HU.out⟩
           have HBK : Aside0 ((⟨acc.data.toList.toArray⟩ : ByteArray) = acc) := ⟨by apply ByteArray.ext; simp⟩
           have HOA := Aside0.mk (Kd.R_below hOut.out hBb.out)
           have c56 : ¬ ((j : Int) < (r.length : Int)) := by omega
           have hmax := HM.out
           have hwi : wrap64 ((i2 : Int) + 1) = (i2 : Int) + 1 := impl_TableLines.wr1 HLT.out HM.out
           clear ho ho1
           go_wp2_with (first
            | (go_at_call 75; go_loud ((with_reducible refine (Tryz.Builder_String_any wo.heap.size wo.heap.size _ _ hI.out hSz.out).mono ?_); rintro e w4 ⟨rfl, hb4⟩; rw [HBK.out]; have HB4 := Aside0.mk (hBb.out.trans hb4); have HS4 := Aside0.mk (Nat.le_trans hSz.out hb4.size); clear hb4))
            | (go_at_call 74; go_loud ((with_reducible refine (strings_TrimRight.calls acc (⟨#[32]⟩ : ByteArray) u _ HU2.out).mono ?_); rintro e w5 ⟨rfl, hb5⟩; have HB5 := Aside0.mk (HB4.out.trans (hb5.mono HS4.out)); clear hb5; have HW5 := Aside0.mk (Kd.R_below hW3.out HB5.out); have HO5 := Aside0.mk (Kd.R_below hOut.out HB5.out); have HA5 := Aside0.mk (hB3.out.trans (HB5.out.mono hB3.out.size))))
            | ((with_reducible refine gate_builtin (b := .append) (xs := #[.tmp 73, .tmp 76]) rfl ?_); at_builtin; go_loud (refine Kd.R_append Kd.string (w0 := w) w.heap.size rfl (.tmp 73) (.tmp 76) 27 9 (.string ⟨#[]⟩) 16 rfl Tryz.underlying27 info9 rfl (by decide) (by omega) u9 out u [.string u] (fun _ => True) (fun _ => False) rfl rfl ?aP (fun _ hk => hk.elim) (fun _ _ => trivial) HO5.out HA5.out HA5.out.size ?aL ?_; (case aP => exact rfl); (case aL => have := HOL.out; omega); intro v7 w7 ho7 hb7 hg7 hat7; have HO7 := Aside0.mk ho7; have HB7 := Aside0.mk hb7; have HW7 := Aside0.mk (Kd.R_over' HW5.out (Kd.R_typed HO5.out) (by decide) hg7); clear ho7 hb7 hg7 hat7)))
           go_roundw
           case rel => exact ⟨i2 + 1, _, by have := HLT.out; omega, by go_num, HO7, HW7, HNX, HB7⟩
           case measure => exact impl_TableLines.meas HLT.out HM.out
      ·have hil2 : i2 = l0.length := by omega
       have ho := hO3.out
       rw [hil2, List.drop_length] at ho
       have ho1 : out = ls := Option.some.inj ho
       have HR2 : Aside0 (impl_reportOrFull.f k out = some (r1, r2)) := ⟨by rw [ho1]; exact HRF.out⟩
       have c50 : ¬ ((i2 : Int) < (l0.length : Int)) := by omega
       clear ho ho1
       go_wp2_with (go_at_call 76; go_loud ((with_reducible refine (impl_reportOrFull.calls k (fun _ => True) _ out r1 r2 w _ hB3.out hOut.out HR2.out).mono ?_); rintro e w4 ⟨v4, rfl, hr4, hb4, -⟩; have HR4 := Aside0.mk hr4; have HB4 := Aside0.mk hb4; clear hr4 hb4))
       go_ret2
       exact ⟨_, rfl, Kd.R_mono HR4.out (fun _ _ => trivial), HB4.out⟩
end Go.Proofs.YtadaegehdcngdaaGreatDoor.XV
end
