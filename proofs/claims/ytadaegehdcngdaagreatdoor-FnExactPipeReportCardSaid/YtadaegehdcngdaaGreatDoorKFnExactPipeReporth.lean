/- The law FnExactPipeReport: part 7 of its texts, joined (wip/pack.py). -/
import Derived.Test.YtadaegehdcngdaaGreatDoorKFnExactPipeReporta
import Derived.Test.YtadaegehdcngdaaGreatDoorKFnExactPipeReportb
import Derived.Test.YtadaegehdcngdaaGreatDoorKFnExactPipeReportc
import Derived.Test.YtadaegehdcngdaaGreatDoorKFnExactPipeReportd
import Derived.Test.YtadaegehdcngdaaGreatDoorKFnExactPipeReporte
import Derived.Test.YtadaegehdcngdaaGreatDoorKFnExactPipeReportf
import Derived.Test.YtadaegehdcngdaaGreatDoorKFnExactPipeReportg
import Derived.Test.YtadaegehdcngdaaGreatDoorProg
import Derived.Lib.Builder
import Derived.Lib.Strings
import Derived.Lib.Slices
import Derived.Lib.Walk
import Derived.Lib.AppendStr
import Derived.Lib.UnsafeStr
import Derived.WalkKit
import Derived.Laws.Externs
import Derived.Laws.IdiomCopy
import Derived.Laws.BitsLemmas
import Derived.KernelRfl

section
namespace Go.Proofs.YtadaegehdcngdaaGreatDoor.XV
open Go.RowKit Go.Proofs.YtadaegehdcngdaaGreatDoorW.PrintWords Go.Proofs.YtadaegehdcngdaaGreatDoorW.PrintLast Go.Proofs.YtadaegehdcngdaaGreatDoorW.PrintMore
attribute [local go_sem] run_eql_slice_nil binOp_string_gtr' binOp_string_leq' binOp_string_geq' max2_int min2_int max_two min_two max_three min_three max_four min_four   -- for this text's walks alone
set_option linter.unusedVariables false
set_option linter.unusedSimpArgs false
def strings_Repeat.f (a0 : ByteArray) (a1 : Int) : Option (ByteArray) := if 0 ≤ a1 ∧ a1 ≤ 9223372036854775807 ∧ (a0.size : Int) * a1 ≤ 140737488355328 then some ⟨(Lib.repeatL a0.data.toList a1.toNat).toArray⟩ else none
theorem strings_Repeat.calls (a0 : ByteArray) (a1 : Int) (r : ByteArray) (w : World) (h : strings_Repeat.f a0 a1 = some r) :
  Calls Tryz.prog 73 #[.string a0, .int .i64 a1] w fun e w' => e = .returned (.string r) ∧ Below w.heap.size w w' := by
 unfold strings_Repeat.f at h
 by_cases hc : 0 ≤ a1 ∧ a1 ≤ 9223372036854775807 ∧ (a0.size : Int) * a1 ≤ 140737488355328
 ·rw [if_pos hc] at h
  obtain rfl := Option.some.inj h
  obtain ⟨n, rfl⟩ : ∃ n : Nat, a1 = n := ⟨a1.toNat, by omega⟩
  have h2 : a0.size * n ≤ 140737488355328 := by
   have := hc.2.2
   rw [← Int.natCast_mul] at this
   omega
  rw [Int.toNat_natCast]
  exact Tryz.strings_Repeat a0 n w (by omega) h2
 ·rw [if_neg hc] at h
  exact absurd h (by simp)
def strings_TrimRight.f (a0 : ByteArray) (a1 : ByteArray) : Option (ByteArray) := if a0.size ≤ 9223372036854775807 ∧ a1.data.toList = [32] then some ⟨(Lib.trimRightB a0.data.toList 32).toArray⟩ else none
theorem strings_TrimRight.calls (a0 : ByteArray) (a1 : ByteArray) (r : ByteArray) (w : World) (h : strings_TrimRight.f a0 a1 = some r) :
  Calls Tryz.prog 74 #[.string a0, .string a1] w fun e w' => e = .returned (.string r) ∧ Below w.heap.size w w' := by
 unfold strings_TrimRight.f at h
 by_cases hc : a0.size ≤ 9223372036854775807 ∧ a1.data.toList = [32]
 ·rw [if_pos hc] at h
  obtain rfl := Option.some.inj h
  have e : a1 = ⟨#[32]⟩ := ByteArray.ext (Array.ext' hc.2)
  subst e
  refine (Tryz.strings_TrimRight_one a0 32 (by decide) w hc.1).mono ?_
  rintro e w' ⟨rfl, rfl⟩
  exact ⟨rfl, Below.refl _ _⟩
 ·rw [if_neg hc] at h
  exact absurd h (by simp)
def impl_lineValid.f (k : Nat) (a0 : ByteArray) : Option (Bool) := if (a0.size : Int) ≤ 100 then ((impl_bytesWithin.f k a0 32 126).bind fun t263 => (some t263)) else (some false)
set_option maxHeartbeats 8000000 in
set_option maxRecDepth 100000 in
theorem impl_lineValid.calls (k : Nat) (a0 : ByteArray) (r : Bool) (w : World) (h : impl_lineValid.f k a0 = some r) :
  Calls Tryz.prog 155 #[.string a0] w fun e w' => e = .returned (.bool r) ∧ Drawn0 w w' := by
 have H : (if (a0.size : Int) ≤ 100 then ((impl_bytesWithin.f k a0 32 126).bind fun t263 => (some t263)) else (some false)) = some r := h
 clear h
 by_cases c2 : (a0.size : Int) ≤ 100
 ·rw [if_pos c2] at H
  have c2b0 : decide ((a0.size : Int) ≤ 100) = true := decide_eq_true c2
  have c2b1 : decide (a0.size ≤ 100) = true := decide_eq_true (by omega)
  clear c2
  replace H := Option.bind_eq_some_iff.mp H
  obtain ⟨t263, A30, H⟩ := H
  replace H : (some t263) = some r := H
  have A3 := Aside0.mk A30
  clear A30
  obtain rfl := Option.some.inj H
  go_enter Tryz.func155, Tryz.ntmps155
  go_wp2_with (first | (go_at_call 71; (with_reducible refine (impl_bytesWithin.calls k a0 32 126 t263 _ A3.out).mono ?_); rintro e w' ⟨rfl, ⟨nd, rfl⟩⟩))
  go_ret
  exact ⟨sZ, dZ⟩
 ·rw [if_neg c2] at H
  have c2b0 : decide ((a0.size : Int) ≤ 100) = false := decide_eq_false c2
  have c2b1 : decide (a0.size ≤ 100) = false := decide_eq_false (by omega)
  clear c2
  obtain rfl := Option.some.inj H
  go_enter Tryz.func155, Tryz.ntmps155
  go_wp2
  go_ret
  exact ⟨sZ, dZ⟩
def impl_ValidReport.l0 : Nat → List ByteArray → Int → Int → Option (Bool)
 | 0, _, _, _ => none
 | k + 1, x8, x9, x10 => if x10 < x9 then (if 0 ≤ x10 then (if x10 < (x8.length : Int) then ((impl_lineValid.f k (rdOf ByteArray.empty x8 x10)).bind fun t265 => (if t265 = true then (impl_ValidReport.l0 k x8 x9 (wrap64 (x10 + 1))) else (some false))) else (none)) else (none)) else (some true)
def impl_ValidReport.f (k : Nat) (l0 : List ByteArray) : Option (Bool) := if (l0.length : Int) > 200 then (some false) else (impl_ValidReport.l0 k l0 (l0.length : Int) 0)
set_option maxHeartbeats 8000000 in
set_option maxRecDepth 100000 in
theorem impl_ValidReport.calls (k : Nat) (A0 : Option Addr) (c0 : Nat) (l0 : List ByteArray) (r : Bool) (w : World) (hr0 : Kd.C Kd.string w A0 l0.length l0) (hc0 : l0.length ≤ c0) (h : impl_ValidReport.f k l0 = some r) :
  Calls Tryz.prog 114 #[.slice A0 l0.length c0] w fun e w' => e = .returned (.bool r) ∧ Drawn0 w w' := by
 have HR0 := Aside0.mk hr0
 have HC0 := Aside0.mk hc0
 clear hr0 hc0
 have H : (if (l0.length : Int) > 200 then (some false) else (impl_ValidReport.l0 k l0 (l0.length : Int) 0)) = some r := h
 clear h
 by_cases c2 : (l0.length : Int) > 200
 ·rw [if_pos c2] at H
  have c2b0 : decide (200 < (l0.length : Int)) = true := decide_eq_true c2
  have c2b1 : decide (200 < l0.length) = true := decide_eq_true (by omega)
  clear c2
  obtain rfl := Option.some.inj H
  go_enter Tryz.func114, Tryz.ntmps114
  go_wp2
  go_ret
  exact ⟨sZ, dZ⟩
 ·rw [if_neg c2] at H
  have c2b0 : decide (200 < (l0.length : Int)) = false := decide_eq_false c2
  have c2b1 : decide (200 < l0.length) = false := decide_eq_false (by omega)
  clear c2
  have H' := Aside0.mk H
  clear H
  go_enter Tryz.func114, Tryz.ntmps114
  go_wp2
  go_loopg [10] k (fun kq v10 w' => ∃ (x10_1 : Int), v10 = .int .i64 x10_1 ∧ Aside0 (impl_ValidReport.l0 kq l0 (l0.length : Int) x10_1 = some r) ∧ Aside0 (kq ≤ k) ∧ Drawn0 w w')
  case atStart => exact ⟨(0), sZ, H', ⟨Nat.le_refl _⟩, dZ⟩
  case round =>
   clear H'; (try clear c1); (try clear c2); (try clear c2b0); (try clear c2b1); (try clear p2)
   obtain ⟨x10_1, rfl, HA, HK1, ⟨m1, rfl⟩⟩ := hrel
   cases gk with
   | zero => exact absurd HA.out (by simp [impl_ValidReport.l0])
   | succ k1 =>
    have H := HA.out
    clear HA
    simp only [impl_ValidReport.l0] at H
    by_cases c3 : x10_1 < (l0.length : Int)
    ·rw [if_pos c3] at H
     have c3b0 : decide (x10_1 < (l0.length : Int)) = true := decide_eq_true c3
     clear c3
     by_cases c4 : 0 ≤ x10_1
     ·rw [if_pos c4] at H
      have c4b0 : decide (0 ≤ x10_1) = true := decide_eq_true c4
      clear c4
      by_cases c5 : x10_1 < (l0.length : Int)
      ·rw [if_pos c5] at H
       have c5b0 : decide (x10_1 < (l0.length : Int)) = true := decide_eq_true c5
       clear c5
       replace H := Option.bind_eq_some_iff.mp H
       obtain ⟨t265, A60, H⟩ := H
       replace H : (if t265 = true then (impl_ValidReport.l0 k1 l0 (l0.length : Int) (wrap64 (x10_1 + 1))) else (some false)) = some r := H
       have A6 := Aside0.mk A60
       clear A60
       by_cases c7 : t265 = true
       ·subst c7
        have H1 : (impl_ValidReport.l0 k1 l0 (l0.length : Int) (wrap64 (x10_1 + 1))) = some r := by rw [if_pos rfl] at H; exact H
        clear H
        have H := H1
        clear H1
        have H' := Aside0.mk H
        clear H
        have p264 : 0 ≤ (x10_1 : Int) := oZ
        have q264 : x10_1 < (l0.length : Int) := oZ
        obtain ⟨ad264, e264, hx264_0⟩ := Kd.at_string HR0.out x10_1 p264 q264
        cases e264
        replace p264 := eq_true p264
        replace q264 := eq_true q264
        go_wp2_with (first | ((with_reducible refine gate_callee (f := 155) rfl ?_); refine goesL_ (some 15) rfl rfl Tryz.func155 (by kernel_rfl) rfl #[.string (rdOf ByteArray.empty l0 x10_1)] rfl gZ ?_; (with_reducible refine (impl_lineValid.calls k1 (rdOf ByteArray.empty l0 x10_1) true _ A6.out).mono ?_); rintro e w' ⟨rfl, ⟨nd, rfl⟩⟩; refine ⟨_, rfl, ?_⟩))
        go_roundg k1
        case measure => have := HK1.out; omega
        case rel => exact ⟨(wrap64 (x10_1 + 1)), sZ, H', ⟨by have := HK1.out; omega⟩, dZ⟩
       ·replace c7 := Bool.eq_false_iff.mpr c7
        subst c7
        have H1 : (some false) = some r := by rw [if_neg (show ¬ (false = true) by decide)] at H; exact H
        clear H
        have H := H1
        clear H1
        obtain rfl := Option.some.inj H
        have p264 : 0 ≤ (x10_1 : Int) := oZ
        have q264 : x10_1 < (l0.length : Int) := oZ
        obtain ⟨ad264, e264, hx264_0⟩ := Kd.at_string HR0.out x10_1 p264 q264
        cases e264
        replace p264 := eq_true p264
        replace q264 := eq_true q264
        go_wp2_with (first | ((with_reducible refine gate_callee (f := 155) rfl ?_); refine goesL_ (some 15) rfl rfl Tryz.func155 (by kernel_rfl) rfl #[.string (rdOf ByteArray.empty l0 x10_1)] rfl gZ ?_; (with_reducible refine (impl_lineValid.calls k1 (rdOf ByteArray.empty l0 x10_1) false _ A6.out).mono ?_); rintro e w' ⟨rfl, ⟨nd, rfl⟩⟩; refine ⟨_, rfl, ?_⟩))
        go_ret
        exact ⟨sZ, dZ⟩
      ·rw [if_neg c5] at H
       exact absurd H (by simp)
     ·rw [if_neg c4] at H
      exact absurd H (by simp)
    ·rw [if_neg c3] at H
     have c3b0 : decide (x10_1 < (l0.length : Int)) = false := decide_eq_false c3
     clear c3
     obtain rfl := Option.some.inj H
     go_wp2
     go_ret
     exact ⟨sZ, dZ⟩
end Go.Proofs.YtadaegehdcngdaaGreatDoor.XV
end

section
namespace Go.Proofs.YtadaegehdcngdaaGreatDoor.XV
open Go.RowKit Go.Proofs.YtadaegehdcngdaaGreatDoorW.PrintWords Go.Proofs.YtadaegehdcngdaaGreatDoorW.PrintLast Go.Proofs.YtadaegehdcngdaaGreatDoorW.PrintMore
attribute [local go_sem] run_eql_slice_nil binOp_string_gtr' binOp_string_leq' binOp_string_geq' max2_int min2_int max_two min_two max_three min_three max_four min_four   -- for this text's walks alone
set_option linter.unusedVariables false
set_option linter.unusedSimpArgs false
def impl_reportOrFull.f (k : Nat) (l0 : List ByteArray) : Option (List ByteArray × Int) := (impl_ValidReport.f k l0).bind fun t266 => (if t266 = true then (some (l0, 0)) else (some (([] : List ByteArray), 5)))
set_option maxHeartbeats 8000000 in
set_option maxRecDepth 100000 in
theorem impl_reportOrFull.calls (k : Nat) (P0_ : Nat → Prop) (u9000_ : Value) (l0 : List ByteArray) (r1 : List ByteArray) (r2 : Int) (w0 w : World) (hB : Below w0.heap.size w0 w) (ho0 : Kd.R Kd.string 9 w w0.heap.size P0_ u9000_ l0) (h : impl_reportOrFull.f k l0 = some (r1, r2)) :
  Calls Tryz.prog 76 #[u9000_] w fun e w' => ∃ v0_ : Value, e = .returned (.tuple #[v0_, .int .i64 r2]) ∧ Kd.R Kd.string 9 w' w0.heap.size (fun k_ => (P0_ k_ ∨ w.heap.size ≤ k_)) v0_ r1 ∧ Below w0.heap.size w0 w' ∧ Kept w w' (fun k_ => P0_ k_) := by
 have HO0 := Aside0.mk (show Kd.R Kd.string 9 w w0.heap.size (fun k_ => (P0_ k_ ∨ w.heap.size ≤ k_)) u9000_ l0 from Kd.R_mono ho0 (fun k_ hk => (.inl hk)))
 have HK := Aside0.mk (Kept.refl w (fun k_ => P0_ k_))
 have HW0 := Aside0.mk hB.size
 have HB := Aside0.mk hB
 clear hB
 have H : ((impl_ValidReport.f k l0).bind fun t266 => (if t266 = true then (some (l0, 0)) else (some (([] : List ByteArray), 5)))) = some (r1, r2) := h
 clear h
 replace H := Option.bind_eq_some_iff.mp H
 obtain ⟨t266, A20, H⟩ := H
 replace H : (if t266 = true then (some (l0, 0)) else (some (([] : List ByteArray), 5))) = some (r1, r2) := H
 have A2 := Aside0.mk A20
 clear A20
 by_cases c3 : t266 = true
 ·subst c3
  have H1 : (some (l0, 0)) = some (r1, r2) := by rw [if_pos rfl] at H; exact H
  clear H
  have H := H1
  clear H1
  simp only [Option.some.injEq, Prod.mk.injEq] at H
  obtain ⟨rfl, rfl⟩ := H
  obtain ⟨Ao4, co4, eo4⟩ := Kd.R_slice HO0.out
  subst eo4
  go_enter Tryz.func76, Tryz.ntmps76
  go_wp2_with (first | ((with_reducible refine gate_callee (f := 114) rfl ?_); refine goesL_ (some 5) rfl rfl Tryz.func114 (by kernel_rfl) rfl #[.slice Ao4 l0.length co4] rfl gZ ?_; (with_reducible refine (impl_ValidReport.calls k _ _ l0 true _ ?side1 ?side2 A2.out).mono ?_); (case side1 => exact Kd.cZ HO0.out); (case side2 => exact (Kd.R_reads' HO0.out).2.1); rintro e w' ⟨rfl, ⟨nd, rfl⟩⟩; refine ⟨_, rfl, ?_⟩))
  go_ret2
  exact ⟨_, eZ, Kd.rZ HO0.out, bZ, by repeat (first | (with_reducible first | exact HK.out | apply Kept.alloc | apply Kept.drewN | apply Kept.drew) | exact HK.out)⟩
 ·replace c3 := Bool.eq_false_iff.mpr c3
  subst c3
  have H1 : (some (([] : List ByteArray), 5)) = some (r1, r2) := by rw [if_neg (show ¬ (false = true) by decide)] at H; exact H
  clear H
  have H := H1
  clear H1
  simp only [Option.some.injEq, Prod.mk.injEq] at H
  obtain ⟨rfl, rfl⟩ := H
  obtain ⟨Ao5, co5, eo5⟩ := Kd.R_slice HO0.out
  subst eo5
  go_enter Tryz.func76, Tryz.ntmps76
  go_wp2_with (first | ((with_reducible refine gate_callee (f := 114) rfl ?_); refine goesL_ (some 5) rfl rfl Tryz.func114 (by kernel_rfl) rfl #[.slice Ao5 l0.length co5] rfl gZ ?_; (with_reducible refine (impl_ValidReport.calls k _ _ l0 false _ ?side1 ?side2 A2.out).mono ?_); (case side1 => exact Kd.cZ HO0.out); (case side2 => exact (Kd.R_reads' HO0.out).2.1); rintro e w' ⟨rfl, ⟨nd, rfl⟩⟩; refine ⟨_, rfl, ?_⟩))
  go_ret2
  exact ⟨_, eZ, by first | exact Kd.R_nil _ _ _ _ _ | exact Kd.N_nil _ _ _ _ _ | exact Kd.V_nil _ _ _ _ _ | exact Kd.Q_nil _ _ _ _ _ | exact Kd.S_nil _ _ _ _ _, bZ, by repeat (first | (with_reducible first | exact HK.out | apply Kept.alloc | apply Kept.drewN | apply Kept.drew) | exact HK.out)⟩
end Go.Proofs.YtadaegehdcngdaaGreatDoor.XV
end

section
namespace Go.Proofs.YtadaegehdcngdaaGreatDoor.Bld
open Go.RowKit
set_option linter.unusedVariables false
set_option linter.unusedSimpArgs false
theorem infoByte : (Tryz.prog.info? 5).map (fun i => (i.zero, i.size, i.bytes)) = some (some (.int .u8 0), 1, 1) := by kernel_rfl
theorem sizeBuilder : (Tryz.prog.info? 101).map (·.size) = some 2 := by kernel_rfl
theorem liesBuilder : liesAt Tryz.prog Tryz.prog.depth 101 (2 / Tryz.prog.cellsOf 101) 0 101 1 = true := by kernel_rfl
set_option maxHeartbeats 1000000 in
set_option maxRecDepth 100000 in
theorem copyCheck_used (b : Nat) (w : World) (h0 : w.cell? ⟨b, 0, none⟩ = some (.pointer (some ⟨b, 0, none⟩))) :
    Calls Tryz.prog 105 #[.pointer (some ⟨b, 0, none⟩)] w fun e w' => e = .returned (.tuple #[]) ∧ w' = w := by
  obtain ⟨j, hj, _⟩ := Option.map_eq_some_iff.1 sizeBuilder
  go_enter Tryz.func105, Tryz.ntmps105
  go_wp2
  rw [Lib.run_neq_ptr_same w _ Tryz.underlying99 hj]
  go_wp2
  go_end0
  exact ⟨rfl, rfl⟩
set_option maxHeartbeats 1000000 in
set_option maxRecDepth 100000 in
theorem copyCheck_fresh (b : Nat) (w : World) (h0 : w.cell? ⟨b, 0, none⟩ = some (.pointer none)) (hsh : w.shape? b = some (101, 2)) (hfz : w.frozen? ⟨b, 0, none⟩ = false) :
    Calls Tryz.prog 105 #[.pointer (some ⟨b, 0, none⟩)] w fun e w' => e = .returned (.tuple #[]) ∧ w' = w.setCell ⟨b, 0, none⟩ (.pointer (some ⟨b, 0, none⟩)) := by
  obtain ⟨j, hj, hjs⟩ := Option.map_eq_some_iff.1 sizeBuilder
  go_enter Tryz.func105, Tryz.ntmps105
  go_wp2
  rw [Lib.run_to_unsafe w ⟨b, 0, none⟩ Tryz.underlying99 Tryz.underlying167 hj (by rw [hjs]; decide) hsh (Nat.zero_lt_succ 1)]
  simp only [Result.andThen]
  rw [Oper.upon_value]
  go_wp2
  rw [run_callFunc_extern Tryz.func147 (by kernel_rfl) (by kernel_rfl) (by kernel_rfl) (e := Extern.AbiNoEscape.same) (by kernel_rfl)]
  rw [Lib.run_noEscape]
  simp only [Result.andThen]
  rw [Oper.upon_value]
  go_wp2
  rw [Lib.run_from_unsafe w ⟨b, 0, none⟩ Tryz.underlying167 Tryz.underlying99 hj hsh liesBuilder]
  simp only [Result.andThen]
  rw [Oper.upon_value]
  go_wp2
  go_end0
  exact ⟨rfl, rfl⟩
theorem copyCheck (B b : Nat) (bs : List Value) (w : World) (h : Lib.IsBuilder 101 5 B b bs w) :
    Calls Tryz.prog 105 #[.pointer (some ⟨b, 0, none⟩)] w fun e w' => e = .returned (.tuple #[]) ∧ (Lib.BuilderAt 101 5 B b (.pointer (some ⟨b, 0, none⟩)) bs w' ∧ Below B w w') := by
  rcases h with h | h
  · refine (copyCheck_fresh b w h.cell0 h.shape h.frozen0).mono ?_
    rintro e w' ⟨rfl, rfl⟩
    exact ⟨rfl, h.used _, (Below.refl B w).setCell (p := ⟨b, 0, none⟩) h.1 _⟩
  · refine (copyCheck_used b w h.cell0).mono ?_
    rintro e w' ⟨rfl, rfl⟩
    exact ⟨rfl, h, Below.refl B _⟩
set_option maxHeartbeats 2000000 in
set_option maxRecDepth 100000 in
theorem writeString (B b : Nat) (bs : List Value) (s : ByteArray) (w : World) (h : Lib.IsBuilder 101 5 B b bs w) (hlen : bs.length + s.size ≤ 140737488355328) (hBw : B ≤ w.heap.size) :
    Calls Tryz.prog 72 #[.pointer (some ⟨b, 0, none⟩), .string s] w fun e w' => e = .returned (.tuple #[.int .i64 s.size, .nilIface]) ∧ (Lib.BuilderAt 101 5 B b (.pointer (some ⟨b, 0, none⟩)) (bs ++ Lib.strCells s) w' ∧ Below B w w') := by
  obtain ⟨i0, hi, hz0, hz1, hz2⟩ := info_parts infoByte
  go_enter Tryz.func72, Tryz.ntmps72
  go_wp2_with (go_at_call 105; refine (copyCheck B b bs _ h).mono ?_)
  rintro e w1 ⟨rfl, h1, hb1⟩
  obtain ⟨hB, v, hbk, hown, hne⟩ := h1
  have c0 : w1.cell? ⟨b, 0, none⟩ = some (.pointer (some ⟨b, 0, none⟩)) := by rw [Lib.cell_of_heap hbk]; rfl
  have c1 : w1.cell? ⟨b, 1, none⟩ = some v := by rw [Lib.cell_of_heap hbk]; rfl
  go_wp2_with (at_builtin; refine Lib.wpList_append_own_string _ rfl _ _ 42 9 rfl B 5 i0 Tryz.underlying42 Tryz.underlying9 hi hz0 hz1 hz2 _ _ _ rfl hown s rfl ?c3 ?c4 ?c5 ?_)
  case c3 => unfold maxLen; omega
  case c4 => omega
  case c5 => have := hb1.size; omega
  intro v' w2 hown' hgrow _
  have hlt : b < w1.heap.size := by
    rcases Nat.lt_or_ge b w1.heap.size with h' | h'
    · exact h'
    · simp [Array.getElem?_eq_none h'] at hbk
  have hb2 : w2.heap[b]? = some (.cells #[.pointer (some ⟨b, 0, none⟩), v] 101 (0, 0)) := by
    rw [hgrow.block b hlt (fun e => hne e.symm)]
    exact hbk
  have d0 : w2.cell? ⟨b, 0, none⟩ = some (.pointer (some ⟨b, 0, none⟩)) := by rw [Lib.cell_of_heap hb2]; rfl
  have d1 : w2.cell? ⟨b, 1, none⟩ = some v := by rw [Lib.cell_of_heap hb2]; rfl
  have f1 : w2.frozen? ⟨b, 1, none⟩ = false := Lib.frozen_of_heap hb2 1
  obtain ⟨ao, n', cap, rfl⟩ : ∃ ao n' cap, v' = .slice ao n' cap := by
    rcases hown'.2 with ⟨hv, _⟩ | ⟨g, cap, cur, hv, _⟩
    · exact ⟨_, _, _, hv⟩
    · exact ⟨_, _, _, hv⟩
  go_wp2
  go_ret2
  refine ⟨rfl, ?_, ?_⟩
  · exact Lib.BuilderAt.put (T := 101) (e := 5) hB hb2 (bs' := bs ++ Lib.strCells s) (by simpa [Lib.strCells_length] using hown') (by decide)
  · exact (hb1.grown hgrow (by have := hb1.size; omega) (fun k hk => (hown.lt k hk).1)).setCell (p := ⟨b, 1, none⟩) hB _
end Go.Proofs.YtadaegehdcngdaaGreatDoor.Bld
end

section
namespace Go.Proofs.YtadaegehdcngdaaGreatDoor.XV
open Go.RowKit Go.Proofs.YtadaegehdcngdaaGreatDoorW.PrintWords Go.Proofs.YtadaegehdcngdaaGreatDoorW.PrintLast Go.Proofs.YtadaegehdcngdaaGreatDoorW.PrintMore
attribute [local go_sem] run_eql_slice_nil binOp_string_gtr' binOp_string_leq' binOp_string_geq' max2_int min2_int max_two min_two max_three min_three max_four min_four   -- for this text's walks alone
set_option linter.unusedVariables false
set_option linter.unusedSimpArgs false
def impl_TableLines.big (ws : List Int) (i : Nat) (c : ByteArray) : Int := if rdOf 0 ws (i : Int) < (c.size : Int) then (c.size : Int) else rdOf 0 ws (i : Int)
def impl_TableLines.wrow (k : Nat) : List ByteArray → Nat → List Int → Option (Option (List Int))
 | [], _, ws => some (some ws)
 | c :: l, i, ws => (impl_bytesWithin.f k c 33 126).bind fun b => if b = true then impl_TableLines.wrow k l (i + 1) (ws.set i (impl_TableLines.big ws i c)) else some none
def impl_TableLines.wrows (k : Nat) : List (List ByteArray) → List Int → Option (Option (List Int))
 | [], ws => some (some ws)
 | r :: l, ws => if r.length ≤ 12 then (impl_TableLines.wrow k r 0 ws).bind fun o => match o with
   | none => some none
   | some ws' => impl_TableLines.wrows k l ws'
  else some none
def impl_TableLines.gap (ws : List Int) (i : Nat) (c : ByteArray) : Int := rdOf 0 ws (i : Int) - (c.size : Int) + 2
def impl_TableLines.cellsT (ws : List Int) : List ByteArray → Nat → ByteArray → Option ByteArray
 | [], _, a => some a
 | c :: l, i, a => if 0 ≤ impl_TableLines.gap ws i c ∧ impl_TableLines.gap ws i c ≤ 1099511627776 then (strings_Repeat.f (⟨#[32]⟩ : ByteArray) (impl_TableLines.gap ws i c)).bind fun sp => if c.size + sp.size ≤ 9223372036854775807 ∧ a.size + (c ++ sp).size ≤ 140737488355328 then impl_TableLines.cellsT ws l (i + 1) (a ++ (c ++ sp)) else none else none
def impl_TableLines.linesT (ws : List Int) : List (List ByteArray) → List ByteArray → Option (List ByteArray)
 | [], out => some out
 | r :: l, out => if r.length ≤ 12 then (impl_TableLines.cellsT ws r 0 ⟨#[]⟩).bind fun t => (strings_TrimRight.f t (⟨#[32]⟩ : ByteArray)).bind fun u => if out.length < 8796093022208 then impl_TableLines.linesT ws l (out ++ [u]) else none else none
def impl_TableLines.f (k : Nat) (l0 : List (List ByteArray)) : Option (List ByteArray × Int) := (impl_TableLines.wrows k l0 (List.replicate 12 0)).bind fun o => match o with
 | none => some ([], 2)
 | some ws => (impl_TableLines.linesT ws l0 []).bind fun ls => impl_reportOrFull.f k ls
theorem impl_TableLines.builder_below {T e B b : Nat} {bs : List Value} {w w' : World} (h : Lib.IsBuilder T e B b bs w) (hb : Below w.heap.size w w') : Lib.IsBuilder T e B b bs w' := by
 rcases h with ⟨h1, v, h2, h3, h4⟩ | ⟨h1, v, h2, h3, h4⟩
 ·exact .inl ⟨h1, v, blk_below h2 hb, pw_own_below h3 hb, h4⟩
 ·exact .inr ⟨h1, v, blk_below h2 hb, pw_own_below h3 hb, h4⟩
theorem impl_TableLines.builder0 (w1 : World) : Lib.IsBuilder 101 5 w1.heap.size w1.heap.size (Lib.byteCells (⟨#[]⟩ : ByteArray).data.toList) (w1.alloc (Obj.cells #[Value.pointer none, Value.slice none 0 0] 101)) :=
 .inl ⟨Nat.le_refl _, .slice none 0 0, by simpa using heap_alloc_new w1 _, by simp [Lib.byteCells]; exact World.ownsRow_nil _ _ _ _, by simp [Value.ownBlock]⟩
theorem impl_TableLines.app (a x : ByteArray) : Lib.byteCells (a ++ x).data.toList = Lib.byteCells a.data.toList ++ Lib.strCells x := by
 rw [Lib.strCells_eq, ← Lib.byteCells_append]
 first | (congr 1; done) | (congr 1; simp [ByteArray.data_append])
theorem impl_TableLines.row_at {w wr : World} {A0 : Option Addr} {l0 : List (List ByteArray)} (hr : Kd.C (Kd.slice 9 Kd.string) w A0 l0.length l0) (hb : Below w.heap.size w wr) (i : Nat) (hi : i < l0.length) :
  ∃ ad A1 c1, A0 = some ad ∧ wr.cell? (ad.add i) = some (.slice A1 l0[i].length c1) ∧ l0[i].length ≤ c1 ∧ Kd.string.C w A1 l0[i].length l0[i] := by
 obtain ⟨ad, c, e, _, hK, hc⟩ := Kd.C_get hr ([] : List ByteArray) (i : Int) (by omega) (by omega)
 rw [Int.toNat_natCast] at hc hK
 have e1 : l0.getD i [] = l0[i] := by simp [List.getD_eq_getElem?_getD, List.getElem?_eq_getElem hi]
 obtain ⟨A1, c1, rfl, hl, hC⟩ := hK
 have e2 : rdOf ([] : List ByteArray) l0 (i : Int) = l0[i] := e1
 have h0 := hc 0 _ rfl
 have h1 : w.cell? (ad.add i) = some (.slice A1 l0[i].length c1) := by
  have : i * (Kd.slice 9 Kd.string).sz + 0 = i := Nat.mul_one i
  rw [this] at h0
  first | (rw [e1] at h0; exact h0) | (rw [e2] at h0; exact h0)
 refine ⟨ad, A1, c1, e, (hb.cell (World.block_lt_of_cell? w _ h1)).trans h1, ?_, ?_⟩
 ·first | (rw [e1] at hl; exact hl) | (rw [e2] at hl; exact hl)
 ·first | (rw [e1] at hC; exact hC) | (rw [e2] at hC; exact hC)
theorem impl_TableLines.cell_at {w wr : World} {A1 : Option Addr} {r : List ByteArray} (hr : Kd.string.C w A1 r.length r) (hb : Below w.heap.size w wr) (j : Nat) (hj : j < r.length) : ∃ ad, A1 = some ad ∧ wr.cell? (ad.add j) = some (.string r[j]) := by
 obtain ⟨ad, e, h⟩ := Kd.at_string hr (j : Int) (by omega) (by omega)
 rw [Int.toNat_natCast] at h
 have e1 : rdOf ByteArray.empty r (j : Int) = r[j] := by unfold rdOf; simp [List.getD_eq_getElem?_getD, List.getElem?_eq_getElem hj]
 rw [e1] at h
 exact ⟨ad, e, (hb.cell (World.block_lt_of_cell? w _ h)).trans h⟩
theorem impl_TableLines.put {W : World} {base g cw : Nat} {ws : List Int} (hl : ws.length = 12) (h : Kd.R (Kd.int .i64) 3 W base (fun _ => True) (.slice (some ⟨g, 0, none⟩) 12 cw) ws) (j : Nat) (x : Int) : Kd.R (Kd.int .i64) 3 (W.setCell ⟨g, j, none⟩ (.int .i64 x)) base (fun _ => True) (.slice (some ⟨g, 0, none⟩) 12 cw) (ws.set j x) := by
 have h1 : Kd.R (Kd.int .i64) 3 W base (fun _ => True) (.slice (some ⟨g, 0, none⟩) ws.length cw) ws := by rw [hl]; exact h
 have h2 := (Kd.R_put h1 (j : Int) x).1
 rw [hl] at h2
 exact h2
theorem impl_TableLines.wr1 {i n : Nat} (h : i < n) (hn : n ≤ 9223372036854775807) : wrap64 ((i : Int) + 1) = (i : Int) + 1 := by unfold wrap64; omega
theorem impl_TableLines.meas {i n : Nat} (h : i < n) (hn : n ≤ 9223372036854775807) : n - (intOf (Value.int .i64 (wrap64 ((i : Int) + 1)))).toNat < n - (intOf (Value.int .i64 (i : Int))).toNat := by
 rw [impl_TableLines.wr1 h hn]
 show n - ((i : Int) + 1).toNat < n - ((i : Int)).toNat
 omega
theorem impl_TableLines.wr2 {x : Int} (h : 0 ≤ x + 2 ∧ x + 2 ≤ 1099511627776) : wrap64 x = x ∧ wrap64 (x + 2) = x + 2 := by unfold wrap64; omega
set_option maxHeartbeats 4000000 in
set_option maxRecDepth 100000 in
theorem impl_TableLines.calls (k : Nat) (A0 : Option Addr) (c0 : Nat) (l0 : List (List ByteArray)) (r1 : List ByteArray) (r2 : Int) (w : World) (hr0 : Kd.C (Kd.slice 9 Kd.string) w A0 l0.length l0) (hc0 : l0.length ≤ c0) (h : impl_TableLines.f k l0 = some (r1, r2)) :
  Calls Tryz.prog 42 #[.slice A0 l0.length c0] w fun e w' => ∃ v0_ : Value, e = .returned (.tuple #[v0_, .int .i64 r2]) ∧ Kd.R Kd.string 9 w' w.heap.size (fun _ => True) v0_ r1 ∧ Below w.heap.size w w' := by
 obtain ⟨o, ho, h⟩ := Option.bind_eq_some_iff.mp h
 have HM := Aside0.mk hr0.2.1
 have HR := Aside0.mk hr0
 have HC := Aside0.mk hc0
 have HO := Aside0.mk ho
 have HN := Aside0.mk h
 clear hr0 hc0 ho h
 go_enter Tryz.func42, Tryz.ntmps42
 go_wp2_with ((with_reducible refine gate_dst (N := 15) rfl ?_); go_loud (refine Kd.R_make (Kd.int .i64) w.heap.size 3 rfl (N := 15) rfl 93 _ _ rfl 12 rfl rfl Tryz.underlying93 (.int .i64 0) 8 info3 rfl (by decide) (by omega) (0 : Int) (ok := fun _ => True) (okp := fun _ => True) rfl (fun _ hk => hk) trivial (by omega) (by omega) (Below.refl _ _) (Nat.le_refl _) ?_; intro vw w1 hw hb hg_ hnew_; have HW := Aside0.mk hw; have HB := Aside0.mk hb; clear hw hb hg_ hnew_))
 obtain ⟨gw, cw, rfl⟩ : ∃ gw cw, vw = Value.slice (some ⟨gw, 0, none⟩) 12 cw := by
  obtain ⟨g, cap, e, _⟩ := Kd.R_form HW.out (by simp)
  exact ⟨g, cap, by simpa using e⟩
 have HW0 : Aside0 (Kd.R (Kd.int .i64) 3 w1 w.heap.size (fun _ => True) (.slice (some ⟨gw, 0, none⟩) 12 cw) (List.replicate 12 0)) := ⟨HW.out⟩
 clear HW
 go_loopw [18] (fun v wr => ∃ (i : Nat) (ws : List Int), i ≤ l0.length ∧ v = .int .i64 i ∧ ws.length = 12 ∧ Aside0 (Kd.R (Kd.int .i64) 3 wr w.heap.size (fun _ => True) (.slice (some ⟨gw, 0, none⟩) 12 cw) ws) ∧ Aside0 (impl_TableLines.wrows k (l0.drop i) ws = some o) ∧ Aside0 (Below w.heap.size w wr)) (fun v _ => l0.length - (intOf v).toNat)
 case atStart => exact ⟨0, _, Nat.zero_le _, rfl, by simp, HW0, HO, HB⟩
 case round =>
  as_aux_lemma =>
   obtain ⟨i, ws, hi, rfl, hwl, hW, hO, hB⟩ := hrel
   clear HW0 HB HO
   have hmax := HM.out
   by_cases hlt : i < l0.length
   ·obtain ⟨ad, A1, c1, e, hx, hl1, hC1⟩ := impl_TableLines.row_at HR.out hB.out i hlt
    subst e
    have ho := hO.out
    rw [List.drop_eq_getElem_cons hlt] at ho
    generalize l0[i] = r at hx hl1 hC1 ho
    unfold impl_TableLines.wrows at ho
    by_cases h12 : r.length ≤ 12
    ·rw [if_pos h12] at ho
     obtain ⟨o1, ho1, ho2⟩ := Option.bind_eq_some_iff.mp ho
     have HO1 := Aside0.mk ho1
     have HO2 := Aside0.mk ho2
     have HC1 := Aside0.mk hC1
     have H12 := Aside0.mk h12
     have HLT := Aside0.mk hlt
     have HWL := Aside0.mk hwl
     have c12 : decide ((12 : Int) < (r.length : Int)) = false := decide_eq_false (by omega)
     clear ho ho1 ho2 hC1
     go_wp2
     clear hx hl1 c12 hlt hwl h12
     go_loopw [27] (fun v wr2 => ∃ (j : Nat) (ws2 : List Int), j ≤ r.length ∧ v = .int .i64 j ∧ ws2.length = 12 ∧ Aside0 (Kd.R (Kd.int .i64) 3 wr2 w.heap.size (fun _ => True) (.slice (some ⟨gw, 0, none⟩) 12 cw) ws2) ∧ Aside0 (impl_TableLines.wrow k (r.drop j) j ws2 = some o1) ∧ Aside0 (Below w.heap.size w wr2)) (fun v _ => r.length - (intOf v).toNat)
     case atStart => exact ⟨0, ws, Nat.zero_le _, rfl, HWL.out, hW, HO1, hB⟩
     case round =>
      as_aux_lemma =>
       obtain ⟨j, ws2, hj, rfl, hwl2, hW2, hO1, hB2⟩ := hrel
       clear hW hB HO1
       have h12 := H12.out
       by_cases hlt2 : j < r.length
       ·as_aux_lemma =>
         obtain ⟨ad2, e2, hx2⟩ := impl_TableLines.cell_at HC1.out hB2.out j hlt2
         subst e2
         have ho := hO1.out
         rw [List.drop_eq_getElem_cons hlt2] at ho
         generalize r[j] = c at hx2 ho
         unfold impl_TableLines.wrow at ho
         obtain ⟨b, hb, ho⟩ := Option.bind_eq_some_iff.mp ho
         have HBW := Aside0.mk hb
         have HLT2 := Aside0.mk hlt2
         have HWL2 := Aside0.mk hwl2
         cases b with
         | false =>
          as_aux_lemma =>
           simp only [Bool.false_eq_true, if_false] at ho
           obtain rfl := Option.some.inj ho
           clear ho hb
           have hn := HO2.out
           simp only at hn
           obtain rfl := Option.some.inj hn
           have hn2 := HN.out
           simp only [Option.some.injEq, Prod.mk.injEq] at hn2
           obtain ⟨rfl, rfl⟩ := hn2
           clear hn
           go_wp2_with (go_at_call 71; go_loud ((with_reducible refine (impl_bytesWithin.calls k c 33 126 false _ HBW.out).mono ?_); rintro e w2 ⟨rfl, ⟨nd, rfl⟩⟩))
           go_ret2
           exact ⟨_, rfl, Kd.R_nil _ _ _ _ _, pw_below_drewN hB2.out _⟩
         | true =>
          as_aux_lemma =>
           simp only [if_true] at ho
           have HO3 := Aside0.mk ho
           clear ho hb
           have hcl : ∀ nd, (wr.drewN nd).cell? ⟨gw, j, none⟩ = some (.int .i64 (rdOf 0 ws2 (j : Int))) := fun nd => by
            have h1 := (Kd.R_celln (0 : Int) hW2.out (j : Int) (by omega) (by omega)).1
            exact h1
           have hfz : ∀ nd, (wr.drewN nd).frozen? ⟨gw, j, none⟩ = false := fun nd => by
            have h1 := (Kd.R_celln (0 : Int) hW2.out (j : Int) (by omega) (by omega)).2
            exact h1
           have hj12 : (j : Int) < 12 := by omega
           have hj12n : j < 12 := by omega
           have hgw : w.heap.size ≤ gw := Kd.R_base hW2.out gw (by simp [Value.ownBlock])
           have HGW := Aside0.mk hgw
           clear hwl2 hgw
           go_wp2_with (go_at_call 71; go_loud ((with_reducible refine (impl_bytesWithin.calls k c 33 126 true _ HBW.out).mono ?_); rintro e w2 ⟨rfl, ⟨nd, rfl⟩⟩; have hcl2 := hcl nd; have hfz2 := hfz nd; have HND := Aside0.mk (Kd.R_drewN hW2.out nd); have HBD := Aside0.mk (pw_below_drewN hB2.out nd); clear hcl hfz))
           go_roundw
           case rel => exact ⟨j + 1, _, by have := HLT2.out; omega, by go_num, by rw [List.length_set]; exact HWL2.out, ⟨impl_TableLines.put HWL2.out HND.out j _⟩, HO3, ⟨below_set HBD.out HGW.out⟩⟩
           case measure => have := HLT2.out; simp [intOf]; omega
       ·as_aux_lemma =>
         have hjl : j = r.length := by omega
         have ho := hO1.out
         rw [hjl, List.drop_length] at ho
         have ho1 : some ws2 = o1 := Option.some.inj ho
         have hn := HO2.out
         rw [← ho1] at hn
         have HO4 : Aside0 (impl_TableLines.wrows k (l0.drop (i + 1)) ws2 = some o) := ⟨hn⟩
         clear ho ho1 hn
         have c28 : ¬ ((j : Int) < (r.length : Int)) := by omega
         have hwi : wrap64 ((i : Int) + 1) = (i : Int) + 1 := impl_TableLines.wr1 HLT.out HM.out
         go_wp2
         go_roundw
         case rel => exact ⟨i + 1, ws2, by have := HLT.out; omega, by go_num, hwl2, hW2, HO4, hB2⟩
         case measure => exact impl_TableLines.meas HLT.out HM.out
    ·rw [if_neg h12] at ho
     obtain rfl := Option.some.inj ho
     have hn2 := HN.out
     simp only [Option.some.injEq, Prod.mk.injEq] at hn2
     obtain ⟨rfl, rfl⟩ := hn2
     have c12 : decide ((12 : Int) < (r.length : Int)) = true := decide_eq_true (by omega)
     clear ho
     go_wp2
     go_ret2
     exact ⟨_, rfl, Kd.R_nil _ _ _ _ _, hB.out⟩
   ·have hil : i = l0.length := by omega
    have ho := hO.out
    rw [hil, List.drop_length] at ho
    have ho1 : some ws = o := Option.some.inj ho
    have hn := HN.out
    rw [← ho1] at hn
    obtain ⟨ls, hls, hn⟩ := Option.bind_eq_some_iff.mp hn
    have HLS := Aside0.mk hls
    have HRF := Aside0.mk hn
    have HWL := Aside0.mk hwl
    clear ho ho1 hn hls hwl
    go_wp2
    go_loopw [49, 9] (fun v v9 wr3 => ∃ (i : Nat) (out : List ByteArray), i ≤ l0.length ∧ v = .int .i64 i ∧ Aside0 (Kd.R Kd.string 9 wr3 w.heap.size (fun _ => True) v9 out) ∧ Aside0 (Kd.R (Kd.int .i64) 3 wr3 w.heap.size (fun _ => True) (.slice (some ⟨gw, 0, none⟩) 12 cw) ws) ∧ Aside0 (impl_TableLines.linesT ws (l0.drop i) out = some ls) ∧ Aside0 (Below w.heap.size w wr3)) (fun v _ _ => l0.length - (intOf v).toNat)
    case atStart => exact ⟨0, [], Nat.zero_le _, rfl, ⟨Kd.R_nil _ _ _ _ _⟩, hW, HLS, hB⟩
    case round =>
     as_aux_lemma =>
      obtain ⟨i2, out, hi2, rfl, hOut, hW3, hO3, hB3⟩ := hrel
      clear hW hB HLS
      by_cases hlt : i2 < l0.length
      ·obtain ⟨ad, A1, c1, e, hx, hl1, hC1⟩ := impl_TableLines.row_at HR.out hB3.out i2 hlt
       subst e
       have ho := hO3.out
       rw [List.drop_eq_getElem_cons hlt] at ho
       generalize l0[i2] = r at hx hl1 hC1 ho
       unfold impl_TableLines.linesT at ho
       by_cases h12 : r.length ≤ 12
       rotate_left
       ·rw [if_neg h12] at ho; cases ho
       rw [if_pos h12] at ho
       obtain ⟨t, ht, ho⟩ := Option.bind_eq_some_iff.mp ho
       obtain ⟨u, hu, ho⟩ := Option.bind_eq_some_iff.mp ho
       by_cases hol : out.length < 8796093022208
       rotate_left
       ·rw [if_neg hol] at ho; cases ho
       rw [if_pos hol] at ho
       have HT := Aside0.mk ht
       have HU := Aside0.mk hu
       have HNX := Aside0.mk ho
       have HOL := Aside0.mk hol
       have HC1 := Aside0.mk hC1
       have H12 := Aside0.mk h12
       have HLT := Aside0.mk hlt
       clear ht hu ho hol hC1
       obtain ⟨wo, hwo⟩ : ∃ wo : World, wo = wr := ⟨_, rfl⟩
       subst hwo
       have HI0 := Aside0.mk (impl_TableLines.builder0 wo)
       go_wp2
       clear hx hl1 hlt h12
       go_loopw [55] (fun v wr4 => ∃ (j : Nat) (acc : ByteArray), j ≤ r.length ∧ v = .int .i64 j ∧ Aside0 (Lib.IsBuilder 101 5 wo.heap.size wo.heap.size (Lib.byteCells acc.data.toList) wr4) ∧ Aside0 (impl_TableLines.cellsT ws (r.drop j) j acc = some t) ∧ Aside0 (Below wo.heap.size wo wr4) ∧ Aside0 (wo.heap.size ≤ wr4.heap.size)) (fun v _ => r.length - (intOf v).toNat)
       case atStart => exact ⟨0, _, Nat.zero_le _, rfl, HI0, HT, ⟨(Below.refl _ _).alloc (Nat.le_refl _) _⟩, ⟨by simp⟩⟩
       case round =>
        as_aux_lemma =>
         obtain ⟨j, acc, hj, rfl, hI, hT, hBb, hSz⟩ := hrel
         clear HI0 HT
         have h12 := H12.out
         have HBA := Aside0.mk (hB3.out.trans (hBb.out.mono hB3.out.size))
         have HWA := Aside0.mk (Kd.R_below hW3.out hBb.out)
         by_cases hlt2 : j < r.length
         ·as_aux_lemma =>
           obtain ⟨ad2, e2, hx2⟩ := impl_TableLines.cell_at HC1.out HBA.out j hlt2
           subst e2
           have ho := hT.out
           rw [List.drop_eq_getElem_cons hlt2] at ho
           generalize r[j] = c at hx2 ho
           unfold impl_TableLines.cellsT impl_TableLines.gap at ho
           by_cases hgp : 0 ≤ rdOf 0 ws (j : Int) - (c.size : Int) + 2 ∧ rdOf 0 ws (j : Int) - (c.size : Int) + 2 ≤ 1099511627776
           rotate_left
           ·rw [if_neg hgp] at ho; cases ho
           rw [if_pos hgp] at ho
           obtain ⟨sp, hsp, ho⟩ := Option.bind_eq_some_iff.mp ho
           by_cases hsz : c.size + sp.size ≤ 9223372036854775807 ∧ acc.size + (c ++ sp).size ≤ 140737488355328
           rotate_left
           ·rw [if_neg hsz] at ho; cases ho
           rw [if_pos hsz] at ho
           have HSP := Aside0.mk hsp
           have HNX2 := Aside0.mk ho
           have HLT2 := Aside0.mk hlt2
           have HAX := Aside0.mk (show (Lib.byteCells acc.data.toList).length + (c ++ sp).size ≤ 140737488355328 by
            rw [Lib.byteCells_length]
            have : acc.data.toList.length = acc.size := by simp
            omega)
           have z1 := hsz.1
           have hw1 : wrap64 (rdOf 0 ws (j : Int) - (c.size : Int)) = rdOf 0 ws (j : Int) - (c.size : Int) := (impl_TableLines.wr2 hgp).1
           have hw2 : wrap64 (rdOf 0 ws (j : Int) - (c.size : Int) + 2) = rdOf 0 ws (j : Int) - (c.size : Int) + 2 := (impl_TableLines.wr2 hgp).2
           have hcl : wr.cell? ⟨gw, j, none⟩ = some (.int .i64 (rdOf 0 ws (j : Int))) := (Kd.R_celln (0 : Int) HWA.out (j : Int) (by omega) (by omega)).1
           have hj12 : (j : Int) < 12 := by omega
           have hj12n : j < 12 := by omega
           clear ho hsp hgp hsz
           go_wp2_with (first
            | (go_at_call 73; go_loud ((with_reducible refine (strings_Repeat.calls (⟨#[32]⟩ : ByteArray) _ sp _ HSP.out).mono ?_); rintro e w4 ⟨rfl, hb4⟩; have HI4 := Aside0.mk (impl_TableLines.builder_below hI.out hb4); have HB4 := Aside0.mk (hBb.out.trans (hb4.mono hSz.out)); have HS4 := Aside0.mk (Nat.le_trans hSz.out hb4.size); clear hb4))
            | (go_at_call 72; go_loud (refine (Bld.writeString wo.heap.size wo.heap.size _ (c ++ sp) _ HI4.out HAX.out HS4.out).mono ?_; rintro e w5 ⟨rfl, hI5, hb5⟩; have HI5 := Aside0.mk hI5; have HB5 := Aside0.mk hb5; clear hI5 hb5)))
           have HI6 : Aside0 (Lib.IsBuilder 101 5 wo.heap.size wo.heap.size (Lib.byteCells (acc ++ (c ++ sp)).data.toList) w5) := ⟨.inr (by rw [impl_TableLines.app]; exact HI5.out)⟩
           have HB6 := Aside0.mk (HB4.out.trans HB5.out)
           have HS6 := Aside0.mk (Nat.le_trans HS4.out HB5.out.size)
           go_roundw
           case rel => exact ⟨j + 1, _, by have := HLT2.out; omega, by go_num, HI6, HNX2, HB6, HS6⟩
           case measure => have := HLT2.out; simp [intOf]; omega
         ·as_aux_lemma =>
           have hjl : j = r.length := by omega
           have ho := hT.out
           rw [hjl, List.drop_length] at ho
           have ho1 : acc = t := Option.some.inj ho
           have HU2 : Aside0 (strings_TrimRight.f acc (⟨#[32]⟩ : ByteArray) = some u) := ⟨by rw [ho1]; exact HU.out⟩
           have HBK : Aside0 ((⟨acc.data.toList.toArray⟩ : ByteArray) = acc) := ⟨by apply ByteArray.ext; simp⟩
           have HOA := Aside0.mk (Kd.R_below hOut.out hBb.out)
           have c56 : ¬ ((j : Int) < (r.length : Int)) := by omega
           have hmax := HM.out
           have hwi : wrap64 ((i2 : Int) + 1) = (i2 : Int) + 1 := impl_TableLines.wr1 HLT.out HM.out
           clear ho ho1
           go_wp2_with (first
            | (go_at_call 75; go_loud ((with_reducible refine (Tryz.Builder_String_any wo.heap.size wo.heap.size _ _ hI.out hSz.out).mono ?_); rintro e w4 ⟨rfl, hb4⟩; rw [HBK.out]; have HB4 := Aside0.mk (hBb.out.trans hb4); have HS4 := Aside0.mk (Nat.le_trans hSz.out hb4.size); clear hb4))
            | (go_at_call 74; go_loud ((with_reducible refine (strings_TrimRight.calls acc (⟨#[32]⟩ : ByteArray) u _ HU2.out).mono ?_); rintro e w5 ⟨rfl, hb5⟩; have HB5 := Aside0.mk (HB4.out.trans (hb5.mono HS4.out)); clear hb5; have HW5 := Aside0.mk (Kd.R_below hW3.out HB5.out); have HO5 := Aside0.mk (Kd.R_below hOut.out HB5.out); have HA5 := Aside0.mk (hB3.out.trans (HB5.out.mono hB3.out.size))))
            | ((with_reducible refine gate_builtin (b := .append) (xs := #[.tmp 73, .tmp 76]) rfl ?_); at_builtin; go_loud (refine Kd.R_append Kd.string (w0 := w) w.heap.size rfl (.tmp 73) (.tmp 76) 27 9 (.string ⟨#[]⟩) 16 rfl Tryz.underlying27 info9 rfl (by decide) (by omega) u9 out u [.string u] (fun _ => True) (fun _ => False) rfl rfl ?aP (fun _ hk => hk.elim) (fun _ _ => trivial) HO5.out HA5.out HA5.out.size ?aL ?_; (case aP => exact rfl); (case aL => have := HOL.out; omega); intro v7 w7 ho7 hb7 hg7 hat7; have HO7 := Aside0.mk ho7; have HB7 := Aside0.mk hb7; have HW7 := Aside0.mk (Kd.R_over' HW5.out (Kd.R_typed HO5.out) (by decide) hg7); clear ho7 hb7 hg7 hat7)))
           go_roundw
           case rel => exact ⟨i2 + 1, _, by have := HLT.out; omega, by go_num, HO7, HW7, HNX, HB7⟩
           case measure => exact impl_TableLines.meas HLT.out HM.out
      ·have hil2 : i2 = l0.length := by omega
       have ho := hO3.out
       rw [hil2, List.drop_length] at ho
       have ho1 : out = ls := Option.some.inj ho
       have HR2 : Aside0 (impl_reportOrFull.f k out = some (r1, r2)) := ⟨by rw [ho1]; exact HRF.out⟩
       have c50 : ¬ ((i2 : Int) < (l0.length : Int)) := by omega
       clear ho ho1
       go_wp2_with (go_at_call 76; go_loud ((with_reducible refine (impl_reportOrFull.calls k (fun _ => True) _ out r1 r2 w _ hB3.out hOut.out HR2.out).mono ?_); rintro e w4 ⟨v4, rfl, hr4, hb4, -⟩; have HR4 := Aside0.mk hr4; have HB4 := Aside0.mk hb4; clear hr4 hb4))
       go_ret2
       exact ⟨_, rfl, Kd.R_mono HR4.out (fun _ _ => trivial), HB4.out⟩
end Go.Proofs.YtadaegehdcngdaaGreatDoor.XV
end

section
namespace Go.Proofs.YtadaegehdcngdaaGreatDoor.XV
open Go.RowKit Go.Proofs.YtadaegehdcngdaaGreatDoorW.PrintWords Go.Proofs.YtadaegehdcngdaaGreatDoorW.PrintLast Go.Proofs.YtadaegehdcngdaaGreatDoorW.PrintMore
attribute [local go_sem] run_eql_slice_nil binOp_string_gtr' binOp_string_leq' binOp_string_geq' max2_int min2_int max_two min_two max_three min_three max_four min_four   -- for this text's walks alone
set_option linter.unusedVariables false
set_option linter.unusedSimpArgs false
def impl_numberCell.f (a0 : Int) (a1 : Int) : Option (ByteArray) := if a1 = 0 then ((impl_Decimal.f a0).bind fun t459 => (some t459)) else (some (⟨#[45]⟩ : ByteArray))
set_option maxHeartbeats 8000000 in
set_option maxRecDepth 100000 in
theorem impl_numberCell.calls (a0 : Int) (a1 : Int) (r : ByteArray) (w : World) (hSH : ShT Tryz.prog w) (h : impl_numberCell.f a0 a1 = some r) :
  Calls Tryz.prog 49 #[.int .i64 a0, .int .i64 a1] w fun e w' => e = .returned (.string r) ∧ Below w.heap.size w w' := by
 have HB := Aside0.mk (Below.refl w.heap.size w)
 have HSH := Aside0.mk hSH
 clear hSH
 have H : (if a1 = 0 then ((impl_Decimal.f a0).bind fun t459 => (some t459)) else (some (⟨#[45]⟩ : ByteArray))) = some r := h
 clear h
 by_cases c3 : a1 = 0
 ·rw [if_pos c3] at H
  have c3b0 : (a1 == 0) = true := beq_iff_eq.mpr c3
  have c3b1 : (a1 != 0) = false := bne_eq_false_iff_eq.mpr c3
  clear c3
  replace H := Option.bind_eq_some_iff.mp H
  obtain ⟨t459, A40, H⟩ := H
  replace H : (some t459) = some r := H
  have A4 := Aside0.mk A40
  clear A40
  obtain rfl := Option.some.inj H
  go_enter Tryz.func49, Tryz.ntmps49
  go_wp2_with (first | ((with_reducible refine gate_callee (f := 41) rfl ?_); refine goesL_ (some 8) rfl rfl Tryz.func41 (by kernel_rfl) rfl #[.int .i64 a0] rfl gZ ?_; (with_reducible refine (impl_Decimal.calls a0 t459 _ ?side1 A4.out).mono ?_); (case side1 => exact HSH.out.below (show Below w.heap.size w _ from bZ)); rintro e w5 ⟨rfl, hb⟩; refine ⟨_, rfl, ?_⟩; have n0_ := Aside0.mk (below_step bZ hb); clear HB; have HB := n0_; clear n0_; (try clear hb); (try clear hb2); (try clear hk); (try clear hi)))
  go_ret
  exact ⟨eZ, bZ⟩
 ·rw [if_neg c3] at H
  have c3b0 : (a1 == 0) = false := beq_eq_false_iff_ne.mpr c3
  have c3b1 : (a1 != 0) = true := bne_iff_ne.mpr c3
  obtain rfl := Option.some.inj H
  go_enter Tryz.func49, Tryz.ntmps49
  go_wp2
  go_ret
  exact ⟨eZ, bZ⟩
def impl_flowOk.f (a0 : Int) : Option (Bool) := (impl_within.f a0 (-100000) 100000).bind fun t460 => (some t460)
set_option maxHeartbeats 8000000 in
set_option maxRecDepth 100000 in
theorem impl_flowOk.calls (a0 : Int) (r : Bool) (w : World) (h : impl_flowOk.f a0 = some r) :
  Calls Tryz.prog 117 #[.int .i64 a0] w fun e w' => e = .returned (.bool r) ∧ Drawn0 w w' := by
 have H : ((impl_within.f a0 (-100000) 100000).bind fun t460 => (some t460)) = some r := h
 clear h
 replace H := Option.bind_eq_some_iff.mp H
 obtain ⟨t460, A20, H⟩ := H
 replace H : (some t460) = some r := H
 have A2 := Aside0.mk A20
 clear A20
 obtain rfl := Option.some.inj H
 go_enter Tryz.func117, Tryz.ntmps117
 go_wp2_with (first | ((with_reducible refine gate_callee (f := 100) rfl ?_); refine goesL_ (some 4) rfl rfl Tryz.func100 (by kernel_rfl) rfl #[.int .i64 a0, .int .i64 (-100000), .int .i64 100000] rfl gZ ?_; (with_reducible refine (impl_within.calls a0 (-100000) 100000 t460 _ A2.out).mono ?_); rintro e w' ⟨rfl, ⟨nd, rfl⟩⟩; refine ⟨_, rfl, ?_⟩))
 go_ret
 exact ⟨sZ, dZ⟩
def impl_Pipe_code.f (k : Nat) (a0_0 : ByteArray) (a0_1 : Int) (a0_2 : Int) (a0_3 : Int) (a0_4 : Int) (a0_5 : Int) (a1 : Int) (l2 : List Int) : Option (Int) := (impl_ValidPipe.f k a0_0 a0_1 a0_2 a0_3 a0_4 a0_5).bind fun t462 => (if t462 = true then ((impl_flowOk.f a1).bind fun t463 => (if t463 = true then ((impl_allWithin.f l2 (-5000) 20000).bind fun t464 => (if t464 = true then (some 0) else (some 2))) else (some 2))) else (some 1))
set_option maxHeartbeats 8000000 in
set_option maxRecDepth 100000 in
theorem impl_Pipe_code.calls (k : Nat) (a0_0 : ByteArray) (a0_1 : Int) (a0_2 : Int) (a0_3 : Int) (a0_4 : Int) (a0_5 : Int) (a1 : Int) (A2 : Option Addr) (c2 : Nat) (l2 : List Int) (r : Int) (w : World) (hr2 : Kd.C (Kd.int .i64) w A2 l2.length l2) (hc2 : l2.length ≤ c2) (h : impl_Pipe_code.f k a0_0 a0_1 a0_2 a0_3 a0_4 a0_5 a1 l2 = some r) :
  Calls Tryz.prog 81 #[.agg #[.string a0_0, .int .i64 a0_1, .int .i64 a0_2, .int .i64 a0_3, .int .i64 a0_4, .int .i64 a0_5], .int .i64 a1, .slice A2 l2.length c2] w fun e w' => e = .returned (.int .i64 r) ∧ Below w.heap.size w w' := by
 have hu58 := Tryz.underlying58
 have HR2 := Aside0.mk hr2
 have HC2 := Aside0.mk hc2
 clear hr2 hc2
 have HB := Aside0.mk (Below.refl w.heap.size w)
 have H : ((impl_ValidPipe.f k a0_0 a0_1 a0_2 a0_3 a0_4 a0_5).bind fun t462 => (if t462 = true then ((impl_flowOk.f a1).bind fun t463 => (if t463 = true then ((impl_allWithin.f l2 (-5000) 20000).bind fun t464 => (if t464 = true then (some 0) else (some 2))) else (some 2))) else (some 1))) = some r := h
 clear h
 replace H := Option.bind_eq_some_iff.mp H
 obtain ⟨t462, A40, H⟩ := H
 replace H : (if t462 = true then ((impl_flowOk.f a1).bind fun t463 => (if t463 = true then ((impl_allWithin.f l2 (-5000) 20000).bind fun t464 => (if t464 = true then (some 0) else (some 2))) else (some 2))) else (some 1)) = some r := H
 have A4 := Aside0.mk A40
 clear A40
 by_cases c5 : t462 = true
 ·subst c5
  have H1 : ((impl_flowOk.f a1).bind fun t463 => (if t463 = true then ((impl_allWithin.f l2 (-5000) 20000).bind fun t464 => (if t464 = true then (some 0) else (some 2))) else (some 2))) = some r := by rw [if_pos rfl] at H; exact H
  clear H
  have H := H1
  clear H1
  replace H := Option.bind_eq_some_iff.mp H
  obtain ⟨t463, A60, H⟩ := H
  replace H : (if t463 = true then ((impl_allWithin.f l2 (-5000) 20000).bind fun t464 => (if t464 = true then (some 0) else (some 2))) else (some 2)) = some r := H
  have A6 := Aside0.mk A60
  clear A60
  by_cases c7 : t463 = true
  ·subst c7
   have H1 : ((impl_allWithin.f l2 (-5000) 20000).bind fun t464 => (if t464 = true then (some 0) else (some 2))) = some r := by rw [if_pos rfl] at H; exact H
   clear H
   have H := H1
   clear H1
   replace H := Option.bind_eq_some_iff.mp H
   obtain ⟨t464, A80, H⟩ := H
   replace H : (if t464 = true then (some 0) else (some 2)) = some r := H
   have A8 := Aside0.mk A80
   clear A80
   by_cases c9 : t464 = true
   ·subst c9
    have H1 : (some 0) = some r := by rw [if_pos rfl] at H; exact H
    clear H
    have H := H1
    clear H1
    obtain rfl := Option.some.inj H
    go_enter Tryz.func81, Tryz.ntmps81
    go_wp2_with (first | ((with_reducible refine gate_dst (N := 3) rfl ?_); refine boxZ 3 #[.string a0_0, .int .i64 a0_1, .int .i64 a0_2, .int .i64 a0_3, .int .i64 a0_4, .int .i64 a0_5] 58 rfl rfl ?_; intro gb461 hg w10 hbox hb; have n0_ := Aside0.mk (below_step bZ hb); have n1_ := Aside0.mk (hbox); have n2_ := Aside0.mk ((by rw [hg]; exact bsZ : w.heap.size ≤ gb461)); have n3_ := Aside0.mk ((by rw [hg]; exact bsZ : w.heap.size ≤ gb461)); clear HB; have HB := n0_; have BK461 := n1_; have GW461 := n2_; have GE461 := n3_; clear n0_ n1_ n2_ n3_; clear hb hbox hg; have hcz11_0 := bc0 BK461.out; have hcz11_1 := bc1 BK461.out; have hcz11_2 := bc2 BK461.out; have hcz11_3 := bc3 BK461.out; have hcz11_4 := bc4 BK461.out; have hcz11_5 := bc5 BK461.out; have hfz11_0 := blk_frozen BK461.out 0; have hfz11_1 := blk_frozen BK461.out 1; have hfz11_2 := blk_frozen BK461.out 2; have hfz11_3 := blk_frozen BK461.out 3; have hfz11_4 := blk_frozen BK461.out 4; have hfz11_5 := blk_frozen BK461.out 5) | ((with_reducible refine gate_callee (f := 68) rfl ?_); refine goesL_ (some 9) rfl rfl Tryz.func68 (by kernel_rfl) rfl #[.agg #[.string a0_0, .int .i64 a0_1, .int .i64 a0_2, .int .i64 a0_3, .int .i64 a0_4, .int .i64 a0_5]] rfl gZ ?_; (with_reducible refine (impl_ValidPipe.calls k a0_0 a0_1 a0_2 a0_3 a0_4 a0_5 true _ A4.out).mono ?_); rintro e w12 ⟨rfl, hb⟩; refine ⟨_, rfl, ?_⟩; have n0_ := Aside0.mk (blk_below (g := gb461) (o := .cells #[.string a0_0, .int .i64 a0_1, .int .i64 a0_2, .int .i64 a0_3, .int .i64 a0_4, .int .i64 a0_5] 58 (0, 0)) (kZ BK461.out) hb); have n1_ := Aside0.mk (below_step bZ hb); clear BK461; clear HB; have BK461 := n0_; have HB := n1_; clear n0_ n1_; (try clear hb); (try clear hb2); (try clear hk); (try clear hi)) | ((with_reducible refine gate_callee (f := 117) rfl ?_); refine goesL_ (some 13) rfl rfl Tryz.func117 (by kernel_rfl) rfl #[.int .i64 a1] rfl gZ ?_; (with_reducible refine (impl_flowOk.calls a1 true _ A6.out).mono ?_); rintro e w' ⟨rfl, ⟨nd, rfl⟩⟩; refine ⟨_, rfl, ?_⟩) | (go_at_call 67; (with_reducible refine (impl_allWithin.calls _ _ l2 (-5000) 20000 true _ ?side1 ?side2 A8.out).mono ?_); (case side1 => repeat (first | exact (Kd.C_below HR2.out bZ) | (with_reducible refine Kd.C_alloc ?_ _) | (with_reducible refine Kd.C_drewN ?_ _) | (with_reducible refine Kd.C_drew ?_))); (case side2 => exact HC2.out); rintro e w13 ⟨rfl, hb⟩; have n0_ := Aside0.mk (blk_below (g := gb461) (o := .cells #[.string a0_0, .int .i64 a0_1, .int .i64 a0_2, .int .i64 a0_3, .int .i64 a0_4, .int .i64 a0_5] 58 (0, 0)) (kZ BK461.out) hb); have n1_ := Aside0.mk (below_step bZ hb); clear BK461; clear HB; have BK461 := n0_; have HB := n1_; clear n0_ n1_; (try clear hb); (try clear hb2); (try clear hk); (try clear hi)))
    go_ret
    exact ⟨eZ, bZ⟩
   ·replace c9 := Bool.eq_false_iff.mpr c9
    subst c9
    have H1 : (some 2) = some r := by rw [if_neg (show ¬ (false = true) by decide)] at H; exact H
    clear H
    have H := H1
    clear H1
    obtain rfl := Option.some.inj H
    go_enter Tryz.func81, Tryz.ntmps81
    go_wp2_with (first | ((with_reducible refine gate_dst (N := 3) rfl ?_); refine boxZ 3 #[.string a0_0, .int .i64 a0_1, .int .i64 a0_2, .int .i64 a0_3, .int .i64 a0_4, .int .i64 a0_5] 58 rfl rfl ?_; intro gb461 hg w14 hbox hb; have n0_ := Aside0.mk (below_step bZ hb); have n1_ := Aside0.mk (hbox); have n2_ := Aside0.mk ((by rw [hg]; exact bsZ : w.heap.size ≤ gb461)); have n3_ := Aside0.mk ((by rw [hg]; exact bsZ : w.heap.size ≤ gb461)); clear HB; have HB := n0_; have BK461 := n1_; have GW461 := n2_; have GE461 := n3_; clear n0_ n1_ n2_ n3_; clear hb hbox hg; have hcz15_0 := bc0 BK461.out; have hcz15_1 := bc1 BK461.out; have hcz15_2 := bc2 BK461.out; have hcz15_3 := bc3 BK461.out; have hcz15_4 := bc4 BK461.out; have hcz15_5 := bc5 BK461.out; have hfz15_0 := blk_frozen BK461.out 0; have hfz15_1 := blk_frozen BK461.out 1; have hfz15_2 := blk_frozen BK461.out 2; have hfz15_3 := blk_frozen BK461.out 3; have hfz15_4 := blk_frozen BK461.out 4; have hfz15_5 := blk_frozen BK461.out 5) | ((with_reducible refine gate_callee (f := 68) rfl ?_); refine goesL_ (some 9) rfl rfl Tryz.func68 (by kernel_rfl) rfl #[.agg #[.string a0_0, .int .i64 a0_1, .int .i64 a0_2, .int .i64 a0_3, .int .i64 a0_4, .int .i64 a0_5]] rfl gZ ?_; (with_reducible refine (impl_ValidPipe.calls k a0_0 a0_1 a0_2 a0_3 a0_4 a0_5 true _ A4.out).mono ?_); rintro e w16 ⟨rfl, hb⟩; refine ⟨_, rfl, ?_⟩; have n0_ := Aside0.mk (blk_below (g := gb461) (o := .cells #[.string a0_0, .int .i64 a0_1, .int .i64 a0_2, .int .i64 a0_3, .int .i64 a0_4, .int .i64 a0_5] 58 (0, 0)) (kZ BK461.out) hb); have n1_ := Aside0.mk (below_step bZ hb); clear BK461; clear HB; have BK461 := n0_; have HB := n1_; clear n0_ n1_; (try clear hb); (try clear hb2); (try clear hk); (try clear hi)) | ((with_reducible refine gate_callee (f := 117) rfl ?_); refine goesL_ (some 13) rfl rfl Tryz.func117 (by kernel_rfl) rfl #[.int .i64 a1] rfl gZ ?_; (with_reducible refine (impl_flowOk.calls a1 true _ A6.out).mono ?_); rintro e w' ⟨rfl, ⟨nd, rfl⟩⟩; refine ⟨_, rfl, ?_⟩) | (go_at_call 67; (with_reducible refine (impl_allWithin.calls _ _ l2 (-5000) 20000 false _ ?side1 ?side2 A8.out).mono ?_); (case side1 => repeat (first | exact (Kd.C_below HR2.out bZ) | (with_reducible refine Kd.C_alloc ?_ _) | (with_reducible refine Kd.C_drewN ?_ _) | (with_reducible refine Kd.C_drew ?_))); (case side2 => exact HC2.out); rintro e w17 ⟨rfl, hb⟩; have n0_ := Aside0.mk (blk_below (g := gb461) (o := .cells #[.string a0_0, .int .i64 a0_1, .int .i64 a0_2, .int .i64 a0_3, .int .i64 a0_4, .int .i64 a0_5] 58 (0, 0)) (kZ BK461.out) hb); have n1_ := Aside0.mk (below_step bZ hb); clear BK461; clear HB; have BK461 := n0_; have HB := n1_; clear n0_ n1_; (try clear hb); (try clear hb2); (try clear hk); (try clear hi)))
    go_ret
    exact ⟨eZ, bZ⟩
  ·replace c7 := Bool.eq_false_iff.mpr c7
   subst c7
   have H1 : (some 2) = some r := by rw [if_neg (show ¬ (false = true) by decide)] at H; exact H
   clear H
   have H := H1
   clear H1
   obtain rfl := Option.some.inj H
   go_enter Tryz.func81, Tryz.ntmps81
   go_wp2_with (first | ((with_reducible refine gate_dst (N := 3) rfl ?_); refine boxZ 3 #[.string a0_0, .int .i64 a0_1, .int .i64 a0_2, .int .i64 a0_3, .int .i64 a0_4, .int .i64 a0_5] 58 rfl rfl ?_; intro gb461 hg w18 hbox hb; have n0_ := Aside0.mk (below_step bZ hb); have n1_ := Aside0.mk (hbox); have n2_ := Aside0.mk ((by rw [hg]; exact bsZ : w.heap.size ≤ gb461)); have n3_ := Aside0.mk ((by rw [hg]; exact bsZ : w.heap.size ≤ gb461)); clear HB; have HB := n0_; have BK461 := n1_; have GW461 := n2_; have GE461 := n3_; clear n0_ n1_ n2_ n3_; clear hb hbox hg; have hcz19_0 := bc0 BK461.out; have hcz19_1 := bc1 BK461.out; have hcz19_2 := bc2 BK461.out; have hcz19_3 := bc3 BK461.out; have hcz19_4 := bc4 BK461.out; have hcz19_5 := bc5 BK461.out; have hfz19_0 := blk_frozen BK461.out 0; have hfz19_1 := blk_frozen BK461.out 1; have hfz19_2 := blk_frozen BK461.out 2; have hfz19_3 := blk_frozen BK461.out 3; have hfz19_4 := blk_frozen BK461.out 4; have hfz19_5 := blk_frozen BK461.out 5) | ((with_reducible refine gate_callee (f := 68) rfl ?_); refine goesL_ (some 9) rfl rfl Tryz.func68 (by kernel_rfl) rfl #[.agg #[.string a0_0, .int .i64 a0_1, .int .i64 a0_2, .int .i64 a0_3, .int .i64 a0_4, .int .i64 a0_5]] rfl gZ ?_; (with_reducible refine (impl_ValidPipe.calls k a0_0 a0_1 a0_2 a0_3 a0_4 a0_5 true _ A4.out).mono ?_); rintro e w20 ⟨rfl, hb⟩; refine ⟨_, rfl, ?_⟩; have n0_ := Aside0.mk (blk_below (g := gb461) (o := .cells #[.string a0_0, .int .i64 a0_1, .int .i64 a0_2, .int .i64 a0_3, .int .i64 a0_4, .int .i64 a0_5] 58 (0, 0)) (kZ BK461.out) hb); have n1_ := Aside0.mk (below_step bZ hb); clear BK461; clear HB; have BK461 := n0_; have HB := n1_; clear n0_ n1_; (try clear hb); (try clear hb2); (try clear hk); (try clear hi)) | ((with_reducible refine gate_callee (f := 117) rfl ?_); refine goesL_ (some 13) rfl rfl Tryz.func117 (by kernel_rfl) rfl #[.int .i64 a1] rfl gZ ?_; (with_reducible refine (impl_flowOk.calls a1 false _ A6.out).mono ?_); rintro e w' ⟨rfl, ⟨nd, rfl⟩⟩; refine ⟨_, rfl, ?_⟩))
   go_ret
   exact ⟨eZ, bZ⟩
 ·replace c5 := Bool.eq_false_iff.mpr c5
  subst c5
  have H1 : (some 1) = some r := by rw [if_neg (show ¬ (false = true) by decide)] at H; exact H
  clear H
  have H := H1
  clear H1
  obtain rfl := Option.some.inj H
  go_enter Tryz.func81, Tryz.ntmps81
  go_wp2_with (first | ((with_reducible refine gate_dst (N := 3) rfl ?_); refine boxZ 3 #[.string a0_0, .int .i64 a0_1, .int .i64 a0_2, .int .i64 a0_3, .int .i64 a0_4, .int .i64 a0_5] 58 rfl rfl ?_; intro gb461 hg w21 hbox hb; have n0_ := Aside0.mk (below_step bZ hb); have n1_ := Aside0.mk (hbox); have n2_ := Aside0.mk ((by rw [hg]; exact bsZ : w.heap.size ≤ gb461)); have n3_ := Aside0.mk ((by rw [hg]; exact bsZ : w.heap.size ≤ gb461)); clear HB; have HB := n0_; have BK461 := n1_; have GW461 := n2_; have GE461 := n3_; clear n0_ n1_ n2_ n3_; clear hb hbox hg; have hcz22_0 := bc0 BK461.out; have hcz22_1 := bc1 BK461.out; have hcz22_2 := bc2 BK461.out; have hcz22_3 := bc3 BK461.out; have hcz22_4 := bc4 BK461.out; have hcz22_5 := bc5 BK461.out; have hfz22_0 := blk_frozen BK461.out 0; have hfz22_1 := blk_frozen BK461.out 1; have hfz22_2 := blk_frozen BK461.out 2; have hfz22_3 := blk_frozen BK461.out 3; have hfz22_4 := blk_frozen BK461.out 4; have hfz22_5 := blk_frozen BK461.out 5) | ((with_reducible refine gate_callee (f := 68) rfl ?_); refine goesL_ (some 9) rfl rfl Tryz.func68 (by kernel_rfl) rfl #[.agg #[.string a0_0, .int .i64 a0_1, .int .i64 a0_2, .int .i64 a0_3, .int .i64 a0_4, .int .i64 a0_5]] rfl gZ ?_; (with_reducible refine (impl_ValidPipe.calls k a0_0 a0_1 a0_2 a0_3 a0_4 a0_5 false _ A4.out).mono ?_); rintro e w23 ⟨rfl, hb⟩; refine ⟨_, rfl, ?_⟩; have n0_ := Aside0.mk (blk_below (g := gb461) (o := .cells #[.string a0_0, .int .i64 a0_1, .int .i64 a0_2, .int .i64 a0_3, .int .i64 a0_4, .int .i64 a0_5] 58 (0, 0)) (kZ BK461.out) hb); have n1_ := Aside0.mk (below_step bZ hb); clear BK461; clear HB; have BK461 := n0_; have HB := n1_; clear n0_ n1_; (try clear hb); (try clear hb2); (try clear hk); (try clear hi)))
  go_ret
  exact ⟨eZ, bZ⟩
end Go.Proofs.YtadaegehdcngdaaGreatDoor.XV
end

section
namespace Go.Proofs.YtadaegehdcngdaaGreatDoor.XV
open Go.RowKit Go.Proofs.YtadaegehdcngdaaGreatDoorW.PrintWords Go.Proofs.YtadaegehdcngdaaGreatDoorW.PrintLast Go.Proofs.YtadaegehdcngdaaGreatDoorW.PrintMore
attribute [local go_sem] run_eql_slice_nil binOp_string_gtr' binOp_string_leq' binOp_string_geq' max2_int min2_int max_two min_two max_three min_three max_four min_four   -- for this text's walks alone
set_option linter.unusedVariables false
set_option linter.unusedSimpArgs false
def impl_divRound.f (a0 : Int) (a1 : Int) : Option (Int) := if a1 = 0 then (none) else ((impl_abs.f (Int.tmod a0 a1)).bind fun t465 => ((impl_abs.f a1).bind fun t466 => (if t465 ≥ (wrap64 (t466 - t465)) then (if ((decide (a0 < 0)) == (decide (a1 < 0))) = true then (some (wrap64 ((wrap64 (Int.tdiv a0 a1)) + 1))) else (some (wrap64 ((wrap64 (Int.tdiv a0 a1)) - 1)))) else (some (wrap64 (Int.tdiv a0 a1))))))
def impl_divRound.T1 : Bool × List (List Nat × List Nat) := (true, [([], []), ([], []), ([0, 1], [0, 1]), ([], []), ([], []), ([3, 4], [3, 4]), ([5], [5]), ([2, 6, 0, 1, 2], [2]), ([6, 7, 0, 1, 2, 3, 4, 5, 6, 7], [6])])
def impl_divRound.B1 : List Nat := [0, 0, 3, 0, 0, 24, 56, 127, 255]
theorem impl_divRound.tab1 : rtab .any (opsOf Tryz.f118 1) = impl_divRound.T1 := by kernel_rfl
theorem impl_divRound.bits1 : waitsOk impl_divRound.T1.2 impl_divRound.B1 = true := by kernel_rfl
set_option maxHeartbeats 8000000 in
set_option maxRecDepth 100000 in
theorem impl_divRound.calls (a0 : Int) (a1 : Int) (r : Int) (w : World) (h : impl_divRound.f a0 a1 = some r) :
  Calls Tryz.prog 118 #[.int .i64 a0, .int .i64 a1] w fun e w' => e = .returned (.int .i64 r) ∧ Below w.heap.size w w' := by
 have HB := Aside0.mk (Below.refl w.heap.size w)
 have H : (if a1 = 0 then (none) else ((impl_abs.f (Int.tmod a0 a1)).bind fun t465 => ((impl_abs.f a1).bind fun t466 => (if t465 ≥ (wrap64 (t466 - t465)) then (if ((decide (a0 < 0)) == (decide (a1 < 0))) = true then (some (wrap64 ((wrap64 (Int.tdiv a0 a1)) + 1))) else (some (wrap64 ((wrap64 (Int.tdiv a0 a1)) - 1)))) else (some (wrap64 (Int.tdiv a0 a1))))))) = some r := h
 clear h
 by_cases c3 : a1 = 0
 ·rw [if_pos c3] at H
  exact absurd H (by simp)
 ·rw [if_neg c3] at H
  have c3b0 : (a1 == 0) = false := beq_eq_false_iff_ne.mpr c3
  have c3b1 : (a1 != 0) = true := bne_iff_ne.mpr c3
  replace H := Option.bind_eq_some_iff.mp H
  obtain ⟨t465, A40, H⟩ := H
  replace H : ((impl_abs.f a1).bind fun t466 => (if t465 ≥ (wrap64 (t466 - t465)) then (if ((decide (a0 < 0)) == (decide (a1 < 0))) = true then (some (wrap64 ((wrap64 (Int.tdiv a0 a1)) + 1))) else (some (wrap64 ((wrap64 (Int.tdiv a0 a1)) - 1)))) else (some (wrap64 (Int.tdiv a0 a1))))) = some r := H
  have A4 := Aside0.mk A40
  clear A40
  replace H := Option.bind_eq_some_iff.mp H
  obtain ⟨t466, A50, H⟩ := H
  replace H : (if t465 ≥ (wrap64 (t466 - t465)) then (if ((decide (a0 < 0)) == (decide (a1 < 0))) = true then (some (wrap64 ((wrap64 (Int.tdiv a0 a1)) + 1))) else (some (wrap64 ((wrap64 (Int.tdiv a0 a1)) - 1)))) else (some (wrap64 (Int.tdiv a0 a1)))) = some r := H
  have A5 := Aside0.mk A50
  clear A50
  by_cases c6 : t465 ≥ (wrap64 (t466 - t465))
  ·rw [if_pos c6] at H
   have c6b0 : decide ((wrap64 (t466 - t465)) ≤ t465) = true := decide_eq_true c6
   clear c6
   by_cases c7 : ((decide (a0 < 0)) == (decide (a1 < 0))) = true
   ·rw [if_pos c7] at H
    have c7b0 : ((decide (a0 < 0)) == (decide (a1 < 0))) = true := c7
    (try (have c7b1 : decide ((decide (a0 < 0)) = (decide (a1 < 0))) = true := by simpa using c7))
    (try (have c7b2 : ((decide (a0 < 0)) == (decide (a1 < 0))) = true := by simpa using c7))
    clear c7
    obtain rfl := Option.some.inj H
    go_enter Tryz.func118, Tryz.ntmps118
    try go_wp2
    have n0_ := Aside0.mk (below_drew1 HB.out)
    clear HB
    have HB := n0_
    clear n0_
    refine start_ (n := 9) (S := fun w' => True) (ds := []) #[false, false, false, false, false, false, false, false, false] (by kernel_rfl) rfl rfl trivial (fun hHeld => ?_); refine with_tabW impl_divRound.tab1 impl_divRound.bits1 (fun HT_ HW_ => ?_)
    generalize w.drew = w8 at HB hHeld ⊢
    refine puZ 0 (some 7) #[true, false, false, false, false, false, false, false, false] rfl rfl HT_.out ?_
    refine puZ 1 (some 8) #[true, true, false, false, false, false, false, false, false] rfl rfl HT_.out ?_
    refine puZ 2 (some 9) #[true, true, true, false, false, false, false, false, false] rfl rfl HT_.out ?_
    refine puZ 3 (some 10) #[true, true, true, true, false, false, false, false, false] rfl rfl HT_.out ?_
    refine puZ 4 (some 11) #[true, true, true, true, true, false, false, false, false] rfl rfl HT_.out ?_
    refine puZ 5 (some 12) #[true, true, true, true, true, true, false, false, false] rfl rfl HT_.out ?_
    refine one_ (i := 6) (N := some 13) #[true, true, true, true, true, true, true, false, false] rfl rfl (one_of HT_.out (by kernel_rfl)) (by decide) (fun K hK => ?_)
    refine goes_ Tryz.func40 (by kernel_rfl) rfl #[.int .i64 (Int.tmod a0 a1)] (by rfl) rfl rfl gZ ?_
    with_reducible refine (impl_abs.calls (Int.tmod a0 a1) t465 _ A4.out).mono ?_
    rintro e w9 ⟨rfl, hb⟩
    refine ⟨_, rfl, ?_⟩
    have n0_ := Aside0.mk (below_step bZ hb)
    clear HB
    have HB := n0_
    clear n0_
    (try clear hb)
    (try clear hb2)
    (try clear hk)
    (try clear hi)
    refine hK.out _ _ trivial (fun hHeld => ?_)
    clear hK K
    refine norm_ (a' := ?_) ?_ ?_
    rotate_left
    ·show Act.put _ (some 13) _ = _
     simp only [Act.put, List.setIfInBounds_toArray, List.set_cons_zero, List.set_cons_succ, i64_w, i32_w]
     rfl
    refine puZ 7 (some 5) #[true, true, true, true, true, true, true, true, false] rfl rfl HT_.out ?_
    refine puZ 8 (some 6) #[true, true, true, true, true, true, true, true, true] rfl rfl HT_.out ?_
    refine done_ (done_of HT_.out (by kernel_rfl)) ?_
    try go_wp2_with (first | ((with_reducible refine gate_callee (f := 40) rfl ?_); refine goesL_ (some 16) rfl rfl Tryz.func40 (by kernel_rfl) rfl #[.int .i64 a1] rfl gZ ?_; (with_reducible refine (impl_abs.calls a1 t466 _ A5.out).mono ?_); rintro e w10 ⟨rfl, hb⟩; refine ⟨_, rfl, ?_⟩; have n0_ := Aside0.mk (below_step bZ hb); clear HB; have HB := n0_; clear n0_; (try clear hb); (try clear hb2); (try clear hk); (try clear hi)))
    go_ret
    exact ⟨eZ, bZ⟩
   ·rw [if_neg c7] at H
    have c7b0 : ((decide (a0 < 0)) == (decide (a1 < 0))) = false := by simpa using c7
    (try (have c7b1 : decide ((decide (a0 < 0)) = (decide (a1 < 0))) = false := by simpa using c7))
    (try (have c7b2 : ((decide (a0 < 0)) == (decide (a1 < 0))) = false := by simpa using c7))
    (try (have c7b3 : ¬ ((decide (a0 < 0)) = (decide (a1 < 0))) := by simpa using c7))
    clear c7
    obtain rfl := Option.some.inj H
    go_enter Tryz.func118, Tryz.ntmps118
    try go_wp2
    have n0_ := Aside0.mk (below_drew1 HB.out)
    clear HB
    have HB := n0_
    clear n0_
    refine start_ (n := 9) (S := fun w' => True) (ds := []) #[false, false, false, false, false, false, false, false, false] (by kernel_rfl) rfl rfl trivial (fun hHeld => ?_); refine with_tabW impl_divRound.tab1 impl_divRound.bits1 (fun HT_ HW_ => ?_)
    generalize w.drew = w11 at HB hHeld ⊢
    refine puZ 0 (some 7) #[true, false, false, false, false, false, false, false, false] rfl rfl HT_.out ?_
    refine puZ 1 (some 8) #[true, true, false, false, false, false, false, false, false] rfl rfl HT_.out ?_
    refine puZ 2 (some 9) #[true, true, true, false, false, false, false, false, false] rfl rfl HT_.out ?_
    refine puZ 3 (some 10) #[true, true, true, true, false, false, false, false, false] rfl rfl HT_.out ?_
    refine puZ 4 (some 11) #[true, true, true, true, true, false, false, false, false] rfl rfl HT_.out ?_
    refine puZ 5 (some 12) #[true, true, true, true, true, true, false, false, false] rfl rfl HT_.out ?_
    refine one_ (i := 6) (N := some 13) #[true, true, true, true, true, true, true, false, false] rfl rfl (one_of HT_.out (by kernel_rfl)) (by decide) (fun K hK => ?_)
    refine goes_ Tryz.func40 (by kernel_rfl) rfl #[.int .i64 (Int.tmod a0 a1)] (by rfl) rfl rfl gZ ?_
    with_reducible refine (impl_abs.calls (Int.tmod a0 a1) t465 _ A4.out).mono ?_
    rintro e w12 ⟨rfl, hb⟩
    refine ⟨_, rfl, ?_⟩
    have n0_ := Aside0.mk (below_step bZ hb)
    clear HB
    have HB := n0_
    clear n0_
    (try clear hb)
    (try clear hb2)
    (try clear hk)
    (try clear hi)
    refine hK.out _ _ trivial (fun hHeld => ?_)
    clear hK K
    refine norm_ (a' := ?_) ?_ ?_
    rotate_left
    ·show Act.put _ (some 13) _ = _
     simp only [Act.put, List.setIfInBounds_toArray, List.set_cons_zero, List.set_cons_succ, i64_w, i32_w]
     rfl
    refine puZ 7 (some 5) #[true, true, true, true, true, true, true, true, false] rfl rfl HT_.out ?_
    refine puZ 8 (some 6) #[true, true, true, true, true, true, true, true, true] rfl rfl HT_.out ?_
    refine done_ (done_of HT_.out (by kernel_rfl)) ?_
    try go_wp2_with (first | ((with_reducible refine gate_callee (f := 40) rfl ?_); refine goesL_ (some 16) rfl rfl Tryz.func40 (by kernel_rfl) rfl #[.int .i64 a1] rfl gZ ?_; (with_reducible refine (impl_abs.calls a1 t466 _ A5.out).mono ?_); rintro e w13 ⟨rfl, hb⟩; refine ⟨_, rfl, ?_⟩; have n0_ := Aside0.mk (below_step bZ hb); clear HB; have HB := n0_; clear n0_; (try clear hb); (try clear hb2); (try clear hk); (try clear hi)))
    go_ret
    exact ⟨eZ, bZ⟩
  ·rw [if_neg c6] at H
   have c6b0 : decide ((wrap64 (t466 - t465)) ≤ t465) = false := decide_eq_false c6
   clear c6
   obtain rfl := Option.some.inj H
   go_enter Tryz.func118, Tryz.ntmps118
   try go_wp2
   have n0_ := Aside0.mk (below_drew1 HB.out)
   clear HB
   have HB := n0_
   clear n0_
   refine start_ (n := 9) (S := fun w' => True) (ds := []) #[false, false, false, false, false, false, false, false, false] (by kernel_rfl) rfl rfl trivial (fun hHeld => ?_); refine with_tabW impl_divRound.tab1 impl_divRound.bits1 (fun HT_ HW_ => ?_)
   generalize w.drew = w14 at HB hHeld ⊢
   refine puZ 0 (some 7) #[true, false, false, false, false, false, false, false, false] rfl rfl HT_.out ?_
   refine puZ 1 (some 8) #[true, true, false, false, false, false, false, false, false] rfl rfl HT_.out ?_
   refine puZ 2 (some 9) #[true, true, true, false, false, false, false, false, false] rfl rfl HT_.out ?_
   refine puZ 3 (some 10) #[true, true, true, true, false, false, false, false, false] rfl rfl HT_.out ?_
   refine puZ 4 (some 11) #[true, true, true, true, true, false, false, false, false] rfl rfl HT_.out ?_
   refine puZ 5 (some 12) #[true, true, true, true, true, true, false, false, false] rfl rfl HT_.out ?_
   refine one_ (i := 6) (N := some 13) #[true, true, true, true, true, true, true, false, false] rfl rfl (one_of HT_.out (by kernel_rfl)) (by decide) (fun K hK => ?_)
   refine goes_ Tryz.func40 (by kernel_rfl) rfl #[.int .i64 (Int.tmod a0 a1)] (by rfl) rfl rfl gZ ?_
   with_reducible refine (impl_abs.calls (Int.tmod a0 a1) t465 _ A4.out).mono ?_
   rintro e w15 ⟨rfl, hb⟩
   refine ⟨_, rfl, ?_⟩
   have n0_ := Aside0.mk (below_step bZ hb)
   clear HB
   have HB := n0_
   clear n0_
   (try clear hb)
   (try clear hb2)
   (try clear hk)
   (try clear hi)
   refine hK.out _ _ trivial (fun hHeld => ?_)
   clear hK K
   refine norm_ (a' := ?_) ?_ ?_
   rotate_left
   ·show Act.put _ (some 13) _ = _
    simp only [Act.put, List.setIfInBounds_toArray, List.set_cons_zero, List.set_cons_succ, i64_w, i32_w]
    rfl
   refine puZ 7 (some 5) #[true, true, true, true, true, true, true, true, false] rfl rfl HT_.out ?_
   refine puZ 8 (some 6) #[true, true, true, true, true, true, true, true, true] rfl rfl HT_.out ?_
   refine done_ (done_of HT_.out (by kernel_rfl)) ?_
   try go_wp2_with (first | ((with_reducible refine gate_callee (f := 40) rfl ?_); refine goesL_ (some 16) rfl rfl Tryz.func40 (by kernel_rfl) rfl #[.int .i64 a1] rfl gZ ?_; (with_reducible refine (impl_abs.calls a1 t466 _ A5.out).mono ?_); rintro e w16 ⟨rfl, hb⟩; refine ⟨_, rfl, ?_⟩; have n0_ := Aside0.mk (below_step bZ hb); clear HB; have HB := n0_; clear n0_; (try clear hb); (try clear hb2); (try clear hk); (try clear hi)))
   go_ret
   exact ⟨eZ, bZ⟩
end Go.Proofs.YtadaegehdcngdaaGreatDoor.XV
end

section
namespace Go.Proofs.YtadaegehdcngdaaGreatDoor.XV
open Go.RowKit Go.Proofs.YtadaegehdcngdaaGreatDoorW.PrintWords Go.Proofs.YtadaegehdcngdaaGreatDoorW.PrintLast Go.Proofs.YtadaegehdcngdaaGreatDoorW.PrintMore
attribute [local go_sem] run_eql_slice_nil binOp_string_gtr' binOp_string_leq' binOp_string_geq' max2_int min2_int max_two min_two max_three min_three max_four min_four   -- for this text's walks alone
set_option linter.unusedVariables false
set_option linter.unusedSimpArgs false
def impl_Pipe_drop.f (a0_0 : ByteArray) (a0_1 : Int) (a0_2 : Int) (a0_3 : Int) (a0_4 : Int) (a0_5 : Int) (a1 : Int) : Option (Int) := (impl_abs.f a1).bind fun t468 => ((impl_divRound.f (wrap64 ((wrap64 ((wrap64 (a0_3 * 16200)) * a1)) * t468)) (wrap64 ((wrap64 ((wrap64 ((wrap64 (a0_4 * a0_4)) * a0_4)) * a0_4)) * a0_4))).bind fun t469 => (some t469))
def impl_Pipe_drop.T2 : Bool × List (List Nat × List Nat) := (true, [([], []), ([0], [0]), ([1], [1]), ([], []), ([2, 3], [2, 3]), ([], []), ([5], [5]), ([4, 6], [4, 6]), ([], []), ([], []), ([8, 9], [8, 9]), ([], []), ([10, 11], [10, 11]), ([], []), ([12, 13], [12, 13]), ([], []), ([14, 15], [14, 15]), ([7, 16, 6], [7, 16]), ([17, 17, 0, 1, 2, 3, 4, 5, 6, 7, 8, 9, 10, 11, 12, 13, 14, 15, 16, 17], [17])])
def impl_Pipe_drop.B2 : List Nat := [0, 1, 3, 0, 15, 0, 32, 127, 0, 0, 768, 0, 3840, 0, 16128, 0, 65280, 131071, 262143]
theorem impl_Pipe_drop.tab2 : rtab .any (opsOf Tryz.f82 2) = impl_Pipe_drop.T2 := by kernel_rfl
theorem impl_Pipe_drop.bits2 : waitsOk impl_Pipe_drop.T2.2 impl_Pipe_drop.B2 = true := by kernel_rfl
set_option maxHeartbeats 8000000 in
set_option maxRecDepth 100000 in
theorem impl_Pipe_drop.calls (a0_0 : ByteArray) (a0_1 : Int) (a0_2 : Int) (a0_3 : Int) (a0_4 : Int) (a0_5 : Int) (a1 : Int) (r : Int) (w : World) (h : impl_Pipe_drop.f a0_0 a0_1 a0_2 a0_3 a0_4 a0_5 a1 = some r) :
  Calls Tryz.prog 82 #[.agg #[.string a0_0, .int .i64 a0_1, .int .i64 a0_2, .int .i64 a0_3, .int .i64 a0_4, .int .i64 a0_5], .int .i64 a1] w fun e w' => e = .returned (.int .i64 r) ∧ Below w.heap.size w w' := by
 have hu58 := Tryz.underlying58
 have HB := Aside0.mk (Below.refl w.heap.size w)
 have H : ((impl_abs.f a1).bind fun t468 => ((impl_divRound.f (wrap64 ((wrap64 ((wrap64 (a0_3 * 16200)) * a1)) * t468)) (wrap64 ((wrap64 ((wrap64 ((wrap64 (a0_4 * a0_4)) * a0_4)) * a0_4)) * a0_4))).bind fun t469 => (some t469))) = some r := h
 clear h
 replace H := Option.bind_eq_some_iff.mp H
 obtain ⟨t468, A30, H⟩ := H
 replace H : ((impl_divRound.f (wrap64 ((wrap64 ((wrap64 (a0_3 * 16200)) * a1)) * t468)) (wrap64 ((wrap64 ((wrap64 ((wrap64 (a0_4 * a0_4)) * a0_4)) * a0_4)) * a0_4))).bind fun t469 => (some t469)) = some r := H
 have A3 := Aside0.mk A30
 clear A30
 replace H := Option.bind_eq_some_iff.mp H
 obtain ⟨t469, A40, H⟩ := H
 replace H : (some t469) = some r := H
 have A4 := Aside0.mk A40
 clear A40
 obtain rfl := Option.some.inj H
 go_enter Tryz.func82, Tryz.ntmps82
 try go_wp2_with (first | ((with_reducible refine gate_dst (N := 2) rfl ?_); refine boxZ 2 #[.string a0_0, .int .i64 a0_1, .int .i64 a0_2, .int .i64 a0_3, .int .i64 a0_4, .int .i64 a0_5] 58 rfl rfl ?_; intro gb467 hg w5 hbox hb; have n0_ := Aside0.mk (below_step bZ hb); have n1_ := Aside0.mk (hbox); have n2_ := Aside0.mk ((by rw [hg]; exact bsZ : w.heap.size ≤ gb467)); have n3_ := Aside0.mk ((by rw [hg]; exact bsZ : w.heap.size ≤ gb467)); clear HB; have HB := n0_; have BK467 := n1_; have GW467 := n2_; have GE467 := n3_; clear n0_ n1_ n2_ n3_; clear hb hbox hg; have hcz6_0 := bc0 BK467.out; have hcz6_1 := bc1 BK467.out; have hcz6_2 := bc2 BK467.out; have hcz6_3 := bc3 BK467.out; have hcz6_4 := bc4 BK467.out; have hcz6_5 := bc5 BK467.out; have hfz6_0 := blk_frozen BK467.out 0; have hfz6_1 := blk_frozen BK467.out 1; have hfz6_2 := blk_frozen BK467.out 2; have hfz6_3 := blk_frozen BK467.out 3; have hfz6_4 := blk_frozen BK467.out 4; have hfz6_5 := blk_frozen BK467.out 5))
 have n0_ := Aside0.mk (blk_drew BK467.out)
 have n1_ := Aside0.mk (below_drew1 HB.out)
 clear BK467; clear HB
 have BK467 := n0_
 have HB := n1_
 clear n0_ n1_
 refine start_ (n := 19) (S := fun w' => w'.cell? ⟨gb467, 0, none⟩ = some (.string a0_0) ∧ w'.cell? ⟨gb467, 1, none⟩ = some (.int .i64 a0_1) ∧ w'.cell? ⟨gb467, 2, none⟩ = some (.int .i64 a0_2) ∧ w'.cell? ⟨gb467, 3, none⟩ = some (.int .i64 a0_3) ∧ w'.cell? ⟨gb467, 4, none⟩ = some (.int .i64 a0_4) ∧ w'.cell? ⟨gb467, 5, none⟩ = some (.int .i64 a0_5)) (ds := []) #[false, false, false, false, false, false, false, false, false, false, false, false, false, false, false, false, false, false, false] (by kernel_rfl) rfl rfl ⟨(blk_cell BK467.out 0).trans rfl, (blk_cell BK467.out 1).trans rfl, (blk_cell BK467.out 2).trans rfl, (blk_cell BK467.out 3).trans rfl, (blk_cell BK467.out 4).trans rfl, (blk_cell BK467.out 5).trans rfl⟩ (fun hHeld => ?_); refine with_tabW impl_Pipe_drop.tab2 impl_Pipe_drop.bits2 (fun HT_ HW_ => ?_)
 generalize w5.drew = w7 at BK467 HB hHeld ⊢
 refine puZ 0 (some 8) #[true, false, false, false, false, false, false, false, false, false, false, false, false, false, false, false, false, false, false] rfl rfl HT_.out ?_
 refine puZ 3 (some 11) #[true, false, false, true, false, false, false, false, false, false, false, false, false, false, false, false, false, false, false] rfl rfl HT_.out ?_
 refine puZ 5 (some 13) #[true, false, false, true, false, true, false, false, false, false, false, false, false, false, false, false, false, false, false] rfl rfl HT_.out ?_
 refine puZ 8 (some 16) #[true, false, false, true, false, true, false, false, true, false, false, false, false, false, false, false, false, false, false] rfl rfl HT_.out ?_
 refine puZ 9 (some 17) #[true, false, false, true, false, true, false, false, true, true, false, false, false, false, false, false, false, false, false] rfl rfl HT_.out ?_
 refine puZ 10 (some 18) #[true, false, false, true, false, true, false, false, true, true, true, false, false, false, false, false, false, false, false] rfl rfl HT_.out ?_
 refine puZ 11 (some 19) #[true, false, false, true, false, true, false, false, true, true, true, true, false, false, false, false, false, false, false] rfl rfl HT_.out ?_
 refine puZ 12 (some 20) #[true, false, false, true, false, true, false, false, true, true, true, true, true, false, false, false, false, false, false] rfl rfl HT_.out ?_
 refine puZ 13 (some 21) #[true, false, false, true, false, true, false, false, true, true, true, true, true, true, false, false, false, false, false] rfl rfl HT_.out ?_
 refine puZ 14 (some 22) #[true, false, false, true, false, true, false, false, true, true, true, true, true, true, true, false, false, false, false] rfl rfl HT_.out ?_
 refine puZ 15 (some 23) #[true, false, false, true, false, true, false, false, true, true, true, true, true, true, true, true, false, false, false] rfl rfl HT_.out ?_
 refine puZ 16 (some 24) #[true, false, false, true, false, true, false, false, true, true, true, true, true, true, true, true, true, false, false] rfl rfl HT_.out ?_
 refine take_ (i := 1) (N := some 9) (v := ?_) (a' := ?_) #[true, true, false, true, false, true, false, false, true, true, true, true, true, true, true, true, true, false, false] rfl rfl (take_ofW HT_.out HW_.out (by kernel_rfl)) (fun _ _ _ h => h) (Or.inl ⟨by rfl, ?_⟩) hHeld ?_ ?_
 rotate_left
 ·rintro w' ⟨s0, s1, s2, s3, s4, s5⟩
  go_simp
  with_reducible rfl
 rotate_left
 ·simp only [Act.put, List.setIfInBounds_toArray, List.set_cons_zero, List.set_cons_succ, i64_w, i32_w]
  rfl
 refine puZ 2 (some 10) #[true, true, true, true, false, true, false, false, true, true, true, true, true, true, true, true, true, false, false] rfl rfl HT_.out ?_
 refine puZ 4 (some 12) #[true, true, true, true, true, true, false, false, true, true, true, true, true, true, true, true, true, false, false] rfl rfl HT_.out ?_
 refine one_ (i := 6) (N := some 14) #[true, true, true, true, true, true, true, false, true, true, true, true, true, true, true, true, true, false, false] rfl rfl (one_of HT_.out (by kernel_rfl)) (by decide) (fun K hK => ?_)
 refine goes_ Tryz.func40 (by kernel_rfl) rfl #[.int .i64 a1] (by rfl) rfl rfl gZ ?_
 with_reducible refine (impl_abs.calls a1 t468 _ A3.out).mono ?_
 rintro e w8 ⟨rfl, hb⟩
 refine ⟨_, rfl, ?_⟩
 have n0_ := Aside0.mk (blk_below (g := gb467) (o := .cells #[.string a0_0, .int .i64 a0_1, .int .i64 a0_2, .int .i64 a0_3, .int .i64 a0_4, .int .i64 a0_5] 58 (0, 0)) (kZ BK467.out) hb)
 have n1_ := Aside0.mk (below_step bZ hb)
 clear BK467; clear HB
 have BK467 := n0_
 have HB := n1_
 clear n0_ n1_
 (try clear hb)
 (try clear hb2)
 (try clear hk)
 (try clear hi)
 refine hK.out _ _ ⟨(blk_cell BK467.out 0).trans rfl, (blk_cell BK467.out 1).trans rfl, (blk_cell BK467.out 2).trans rfl, (blk_cell BK467.out 3).trans rfl, (blk_cell BK467.out 4).trans rfl, (blk_cell BK467.out 5).trans rfl⟩ (fun hHeld => ?_)
 clear hK K
 refine norm_ (a' := ?_) ?_ ?_
 rotate_left
 ·show Act.put _ (some 14) _ = _
  simp only [Act.put, List.setIfInBounds_toArray, List.set_cons_zero, List.set_cons_succ, i64_w, i32_w]
  rfl
 refine puZ 7 (some 15) #[true, true, true, true, true, true, true, true, true, true, true, true, true, true, true, true, true, false, false] rfl rfl HT_.out ?_
 refine one_ (i := 17) (N := some 25) #[true, true, true, true, true, true, true, true, true, true, true, true, true, true, true, true, true, true, false] rfl rfl (one_of HT_.out (by kernel_rfl)) (by decide) (fun K hK => ?_)
 refine goes_ Tryz.func118 (by kernel_rfl) rfl #[.int .i64 (wrap64 ((wrap64 ((wrap64 (a0_3 * 16200)) * a1)) * t468)), .int .i64 (wrap64 ((wrap64 ((wrap64 ((wrap64 (a0_4 * a0_4)) * a0_4)) * a0_4)) * a0_4))] (by rfl) rfl rfl gZ ?_
 with_reducible refine (impl_divRound.calls (wrap64 ((wrap64 ((wrap64 (a0_3 * 16200)) * a1)) * t468)) (wrap64 ((wrap64 ((wrap64 ((wrap64 (a0_4 * a0_4)) * a0_4)) * a0_4)) * a0_4)) t469 _ A4.out).mono ?_
 rintro e w9 ⟨rfl, hb⟩
 refine ⟨_, rfl, ?_⟩
 have n0_ := Aside0.mk (blk_below (g := gb467) (o := .cells #[.string a0_0, .int .i64 a0_1, .int .i64 a0_2, .int .i64 a0_3, .int .i64 a0_4, .int .i64 a0_5] 58 (0, 0)) (kZ BK467.out) hb)
 have n1_ := Aside0.mk (below_step bZ hb)
 clear BK467; clear HB
 have BK467 := n0_
 have HB := n1_
 clear n0_ n1_
 (try clear hb)
 (try clear hb2)
 (try clear hk)
 (try clear hi)
 refine hK.out _ _ ⟨(blk_cell BK467.out 0).trans rfl, (blk_cell BK467.out 1).trans rfl, (blk_cell BK467.out 2).trans rfl, (blk_cell BK467.out 3).trans rfl, (blk_cell BK467.out 4).trans rfl, (blk_cell BK467.out 5).trans rfl⟩ (fun hHeld => ?_)
 clear hK K
 refine norm_ (a' := ?_) ?_ ?_
 rotate_left
 ·show Act.put _ (some 25) _ = _
  simp only [Act.put, List.setIfInBounds_toArray, List.set_cons_zero, List.set_cons_succ, i64_w, i32_w]
  rfl
 refine puZ 18 (some 4) #[true, true, true, true, true, true, true, true, true, true, true, true, true, true, true, true, true, true, true] rfl rfl HT_.out ?_
 refine done_ (done_of HT_.out (by kernel_rfl)) ?_
 try go_wp2
 go_ret
 exact ⟨eZ, bZ⟩
end Go.Proofs.YtadaegehdcngdaaGreatDoor.XV
end

section
namespace Go.Proofs.YtadaegehdcngdaaGreatDoor.XV
open Go.RowKit Go.Proofs.YtadaegehdcngdaaGreatDoorW.PrintWords Go.Proofs.YtadaegehdcngdaaGreatDoorW.PrintLast Go.Proofs.YtadaegehdcngdaaGreatDoorW.PrintMore
attribute [local go_sem] run_eql_slice_nil binOp_string_gtr' binOp_string_leq' binOp_string_geq' max2_int min2_int max_two min_two max_three min_three max_four min_four   -- for this text's walks alone
set_option linter.unusedVariables false
set_option linter.unusedSimpArgs false
def impl_DropOf.f (k : Nat) (a0_0 : ByteArray) (a0_1 : Int) (a0_2 : Int) (a0_3 : Int) (a0_4 : Int) (a0_5 : Int) (a1 : Int) : Option (Int × Int) := (impl_Pipe_code.f k a0_0 a0_1 a0_2 a0_3 a0_4 a0_5 a1 ([] : List Int)).bind fun t471 => (if t471 = 0 then ((impl_Pipe_drop.f a0_0 a0_1 a0_2 a0_3 a0_4 a0_5 a1).bind fun t472 => ((impl_abs.f t472).bind fun t473 => (if t473 > 100000000 then (some (0, 6)) else (some (t472, 0))))) else (some (0, t471)))
set_option maxHeartbeats 8000000 in
set_option maxRecDepth 100000 in
theorem impl_DropOf.calls (k : Nat) (a0_0 : ByteArray) (a0_1 : Int) (a0_2 : Int) (a0_3 : Int) (a0_4 : Int) (a0_5 : Int) (a1 : Int) (r1 : Int) (r2 : Int) (w : World) (h : impl_DropOf.f k a0_0 a0_1 a0_2 a0_3 a0_4 a0_5 a1 = some (r1, r2)) :
  Calls Tryz.prog 50 #[.agg #[.string a0_0, .int .i64 a0_1, .int .i64 a0_2, .int .i64 a0_3, .int .i64 a0_4, .int .i64 a0_5], .int .i64 a1] w fun e w' => e = .returned (.tuple #[.int .i64 r1, .int .i64 r2]) ∧ Below w.heap.size w w' := by
 have hu58 := Tryz.underlying58
 have HB := Aside0.mk (Below.refl w.heap.size w)
 have H : ((impl_Pipe_code.f k a0_0 a0_1 a0_2 a0_3 a0_4 a0_5 a1 ([] : List Int)).bind fun t471 => (if t471 = 0 then ((impl_Pipe_drop.f a0_0 a0_1 a0_2 a0_3 a0_4 a0_5 a1).bind fun t472 => ((impl_abs.f t472).bind fun t473 => (if t473 > 100000000 then (some (0, 6)) else (some (t472, 0))))) else (some (0, t471)))) = some (r1, r2) := h
 clear h
 replace H := Option.bind_eq_some_iff.mp H
 obtain ⟨t471, A30, H⟩ := H
 replace H : (if t471 = 0 then ((impl_Pipe_drop.f a0_0 a0_1 a0_2 a0_3 a0_4 a0_5 a1).bind fun t472 => ((impl_abs.f t472).bind fun t473 => (if t473 > 100000000 then (some (0, 6)) else (some (t472, 0))))) else (some (0, t471))) = some (r1, r2) := H
 have A3 := Aside0.mk A30
 clear A30
 by_cases c4 : t471 = 0
 ·rw [if_pos c4] at H
  have c4b0 : (t471 == 0) = true := beq_iff_eq.mpr c4
  have c4b1 : (t471 != 0) = false := bne_eq_false_iff_eq.mpr c4
  clear c4
  replace H := Option.bind_eq_some_iff.mp H
  obtain ⟨t472, A50, H⟩ := H
  replace H : ((impl_abs.f t472).bind fun t473 => (if t473 > 100000000 then (some (0, 6)) else (some (t472, 0)))) = some (r1, r2) := H
  have A5 := Aside0.mk A50
  clear A50
  replace H := Option.bind_eq_some_iff.mp H
  obtain ⟨t473, A60, H⟩ := H
  replace H : (if t473 > 100000000 then (some (0, 6)) else (some (t472, 0))) = some (r1, r2) := H
  have A6 := Aside0.mk A60
  clear A60
  by_cases c7 : t473 > 100000000
  ·rw [if_pos c7] at H
   have c7b0 : decide (100000000 < t473) = true := decide_eq_true c7
   clear c7
   simp only [Option.some.injEq, Prod.mk.injEq] at H
   obtain ⟨rfl, rfl⟩ := H
   go_enter Tryz.func50, Tryz.ntmps50
   go_wp2_with (first | ((with_reducible refine gate_dst (N := 2) rfl ?_); refine boxZ 2 #[.string a0_0, .int .i64 a0_1, .int .i64 a0_2, .int .i64 a0_3, .int .i64 a0_4, .int .i64 a0_5] 58 rfl rfl ?_; intro gb470 hg w8 hbox hb; have n0_ := Aside0.mk (below_step bZ hb); have n1_ := Aside0.mk (hbox); have n2_ := Aside0.mk ((by rw [hg]; exact bsZ : w.heap.size ≤ gb470)); have n3_ := Aside0.mk ((by rw [hg]; exact bsZ : w.heap.size ≤ gb470)); clear HB; have HB := n0_; have BK470 := n1_; have GW470 := n2_; have GE470 := n3_; clear n0_ n1_ n2_ n3_; clear hb hbox hg; have hcz9_0 := bc0 BK470.out; have hcz9_1 := bc1 BK470.out; have hcz9_2 := bc2 BK470.out; have hcz9_3 := bc3 BK470.out; have hcz9_4 := bc4 BK470.out; have hcz9_5 := bc5 BK470.out; have hfz9_0 := blk_frozen BK470.out 0; have hfz9_1 := blk_frozen BK470.out 1; have hfz9_2 := blk_frozen BK470.out 2; have hfz9_3 := blk_frozen BK470.out 3; have hfz9_4 := blk_frozen BK470.out 4; have hfz9_5 := blk_frozen BK470.out 5) | ((with_reducible refine gate_callee (f := 81) rfl ?_); refine goesL_ (some 10) rfl rfl Tryz.func81 (by kernel_rfl) rfl #[.agg #[.string a0_0, .int .i64 a0_1, .int .i64 a0_2, .int .i64 a0_3, .int .i64 a0_4, .int .i64 a0_5], .int .i64 a1, .slice none 0 0] rfl gZ ?_; (refine (impl_Pipe_code.calls k a0_0 a0_1 a0_2 a0_3 a0_4 a0_5 a1 _ _ ([] : List Int) t471 _ ?side1 ?side2 A3.out).mono ?_); (case side1 => exact Kd.C_nil _ _); (case side2 => exact Nat.le_refl _); rintro e w10 ⟨rfl, hb⟩; refine ⟨_, rfl, ?_⟩; have n0_ := Aside0.mk (blk_below (g := gb470) (o := .cells #[.string a0_0, .int .i64 a0_1, .int .i64 a0_2, .int .i64 a0_3, .int .i64 a0_4, .int .i64 a0_5] 58 (0, 0)) (kZ BK470.out) hb); have n1_ := Aside0.mk (below_step bZ hb); clear BK470; clear HB; have BK470 := n0_; have HB := n1_; clear n0_ n1_; (try clear hb); (try clear hb2); (try clear hk); (try clear hi); have hcz11_0 := bc0 BK470.out; have hcz11_1 := bc1 BK470.out; have hcz11_2 := bc2 BK470.out; have hcz11_3 := bc3 BK470.out; have hcz11_4 := bc4 BK470.out; have hcz11_5 := bc5 BK470.out; have hfz11_0 := blk_frozen BK470.out 0; have hfz11_1 := blk_frozen BK470.out 1; have hfz11_2 := blk_frozen BK470.out 2; have hfz11_3 := blk_frozen BK470.out 3; have hfz11_4 := blk_frozen BK470.out 4; have hfz11_5 := blk_frozen BK470.out 5) | ((with_reducible refine gate_callee (f := 82) rfl ?_); refine goesL_ (some 16) rfl rfl Tryz.func82 (by kernel_rfl) rfl #[.agg #[.string a0_0, .int .i64 a0_1, .int .i64 a0_2, .int .i64 a0_3, .int .i64 a0_4, .int .i64 a0_5], .int .i64 a1] rfl gZ ?_; (with_reducible refine (impl_Pipe_drop.calls a0_0 a0_1 a0_2 a0_3 a0_4 a0_5 a1 t472 _ A5.out).mono ?_); rintro e w12 ⟨rfl, hb⟩; refine ⟨_, rfl, ?_⟩; have n0_ := Aside0.mk (blk_below (g := gb470) (o := .cells #[.string a0_0, .int .i64 a0_1, .int .i64 a0_2, .int .i64 a0_3, .int .i64 a0_4, .int .i64 a0_5] 58 (0, 0)) (kZ BK470.out) hb); have n1_ := Aside0.mk (below_step bZ hb); clear BK470; clear HB; have BK470 := n0_; have HB := n1_; clear n0_ n1_; (try clear hb); (try clear hb2); (try clear hk); (try clear hi)) | ((with_reducible refine gate_callee (f := 40) rfl ?_); refine goesL_ (some 18) rfl rfl Tryz.func40 (by kernel_rfl) rfl #[.int .i64 t472] rfl gZ ?_; (with_reducible refine (impl_abs.calls t472 t473 _ A6.out).mono ?_); rintro e w13 ⟨rfl, hb⟩; refine ⟨_, rfl, ?_⟩; have n0_ := Aside0.mk (blk_below (g := gb470) (o := .cells #[.string a0_0, .int .i64 a0_1, .int .i64 a0_2, .int .i64 a0_3, .int .i64 a0_4, .int .i64 a0_5] 58 (0, 0)) (kZ BK470.out) hb); have n1_ := Aside0.mk (below_step bZ hb); clear BK470; clear HB; have BK470 := n0_; have HB := n1_; clear n0_ n1_; (try clear hb); (try clear hb2); (try clear hk); (try clear hi)))
   go_ret2
   exact ⟨eZ, bZ⟩
  ·rw [if_neg c7] at H
   have c7b0 : decide (100000000 < t473) = false := decide_eq_false c7
   clear c7
   simp only [Option.some.injEq, Prod.mk.injEq] at H
   obtain ⟨rfl, rfl⟩ := H
   go_enter Tryz.func50, Tryz.ntmps50
   go_wp2_with (first | ((with_reducible refine gate_dst (N := 2) rfl ?_); refine boxZ 2 #[.string a0_0, .int .i64 a0_1, .int .i64 a0_2, .int .i64 a0_3, .int .i64 a0_4, .int .i64 a0_5] 58 rfl rfl ?_; intro gb470 hg w14 hbox hb; have n0_ := Aside0.mk (below_step bZ hb); have n1_ := Aside0.mk (hbox); have n2_ := Aside0.mk ((by rw [hg]; exact bsZ : w.heap.size ≤ gb470)); have n3_ := Aside0.mk ((by rw [hg]; exact bsZ : w.heap.size ≤ gb470)); clear HB; have HB := n0_; have BK470 := n1_; have GW470 := n2_; have GE470 := n3_; clear n0_ n1_ n2_ n3_; clear hb hbox hg; have hcz15_0 := bc0 BK470.out; have hcz15_1 := bc1 BK470.out; have hcz15_2 := bc2 BK470.out; have hcz15_3 := bc3 BK470.out; have hcz15_4 := bc4 BK470.out; have hcz15_5 := bc5 BK470.out; have hfz15_0 := blk_frozen BK470.out 0; have hfz15_1 := blk_frozen BK470.out 1; have hfz15_2 := blk_frozen BK470.out 2; have hfz15_3 := blk_frozen BK470.out 3; have hfz15_4 := blk_frozen BK470.out 4; have hfz15_5 := blk_frozen BK470.out 5) | ((with_reducible refine gate_callee (f := 81) rfl ?_); refine goesL_ (some 10) rfl rfl Tryz.func81 (by kernel_rfl) rfl #[.agg #[.string a0_0, .int .i64 a0_1, .int .i64 a0_2, .int .i64 a0_3, .int .i64 a0_4, .int .i64 a0_5], .int .i64 a1, .slice none 0 0] rfl gZ ?_; (refine (impl_Pipe_code.calls k a0_0 a0_1 a0_2 a0_3 a0_4 a0_5 a1 _ _ ([] : List Int) t471 _ ?side1 ?side2 A3.out).mono ?_); (case side1 => exact Kd.C_nil _ _); (case side2 => exact Nat.le_refl _); rintro e w16 ⟨rfl, hb⟩; refine ⟨_, rfl, ?_⟩; have n0_ := Aside0.mk (blk_below (g := gb470) (o := .cells #[.string a0_0, .int .i64 a0_1, .int .i64 a0_2, .int .i64 a0_3, .int .i64 a0_4, .int .i64 a0_5] 58 (0, 0)) (kZ BK470.out) hb); have n1_ := Aside0.mk (below_step bZ hb); clear BK470; clear HB; have BK470 := n0_; have HB := n1_; clear n0_ n1_; (try clear hb); (try clear hb2); (try clear hk); (try clear hi); have hcz17_0 := bc0 BK470.out; have hcz17_1 := bc1 BK470.out; have hcz17_2 := bc2 BK470.out; have hcz17_3 := bc3 BK470.out; have hcz17_4 := bc4 BK470.out; have hcz17_5 := bc5 BK470.out; have hfz17_0 := blk_frozen BK470.out 0; have hfz17_1 := blk_frozen BK470.out 1; have hfz17_2 := blk_frozen BK470.out 2; have hfz17_3 := blk_frozen BK470.out 3; have hfz17_4 := blk_frozen BK470.out 4; have hfz17_5 := blk_frozen BK470.out 5) | ((with_reducible refine gate_callee (f := 82) rfl ?_); refine goesL_ (some 16) rfl rfl Tryz.func82 (by kernel_rfl) rfl #[.agg #[.string a0_0, .int .i64 a0_1, .int .i64 a0_2, .int .i64 a0_3, .int .i64 a0_4, .int .i64 a0_5], .int .i64 a1] rfl gZ ?_; (with_reducible refine (impl_Pipe_drop.calls a0_0 a0_1 a0_2 a0_3 a0_4 a0_5 a1 t472 _ A5.out).mono ?_); rintro e w18 ⟨rfl, hb⟩; refine ⟨_, rfl, ?_⟩; have n0_ := Aside0.mk (blk_below (g := gb470) (o := .cells #[.string a0_0, .int .i64 a0_1, .int .i64 a0_2, .int .i64 a0_3, .int .i64 a0_4, .int .i64 a0_5] 58 (0, 0)) (kZ BK470.out) hb); have n1_ := Aside0.mk (below_step bZ hb); clear BK470; clear HB; have BK470 := n0_; have HB := n1_; clear n0_ n1_; (try clear hb); (try clear hb2); (try clear hk); (try clear hi)) | ((with_reducible refine gate_callee (f := 40) rfl ?_); refine goesL_ (some 18) rfl rfl Tryz.func40 (by kernel_rfl) rfl #[.int .i64 t472] rfl gZ ?_; (with_reducible refine (impl_abs.calls t472 t473 _ A6.out).mono ?_); rintro e w19 ⟨rfl, hb⟩; refine ⟨_, rfl, ?_⟩; have n0_ := Aside0.mk (blk_below (g := gb470) (o := .cells #[.string a0_0, .int .i64 a0_1, .int .i64 a0_2, .int .i64 a0_3, .int .i64 a0_4, .int .i64 a0_5] 58 (0, 0)) (kZ BK470.out) hb); have n1_ := Aside0.mk (below_step bZ hb); clear BK470; clear HB; have BK470 := n0_; have HB := n1_; clear n0_ n1_; (try clear hb); (try clear hb2); (try clear hk); (try clear hi)))
   go_ret2
   exact ⟨eZ, bZ⟩
 ·rw [if_neg c4] at H
  have c4b0 : (t471 == 0) = false := beq_eq_false_iff_ne.mpr c4
  have c4b1 : (t471 != 0) = true := bne_iff_ne.mpr c4
  simp only [Option.some.injEq, Prod.mk.injEq] at H
  obtain ⟨rfl, rfl⟩ := H
  go_enter Tryz.func50, Tryz.ntmps50
  go_wp2_with (first | ((with_reducible refine gate_dst (N := 2) rfl ?_); refine boxZ 2 #[.string a0_0, .int .i64 a0_1, .int .i64 a0_2, .int .i64 a0_3, .int .i64 a0_4, .int .i64 a0_5] 58 rfl rfl ?_; intro gb470 hg w20 hbox hb; have n0_ := Aside0.mk (below_step bZ hb); have n1_ := Aside0.mk (hbox); have n2_ := Aside0.mk ((by rw [hg]; exact bsZ : w.heap.size ≤ gb470)); have n3_ := Aside0.mk ((by rw [hg]; exact bsZ : w.heap.size ≤ gb470)); clear HB; have HB := n0_; have BK470 := n1_; have GW470 := n2_; have GE470 := n3_; clear n0_ n1_ n2_ n3_; clear hb hbox hg; have hcz21_0 := bc0 BK470.out; have hcz21_1 := bc1 BK470.out; have hcz21_2 := bc2 BK470.out; have hcz21_3 := bc3 BK470.out; have hcz21_4 := bc4 BK470.out; have hcz21_5 := bc5 BK470.out; have hfz21_0 := blk_frozen BK470.out 0; have hfz21_1 := blk_frozen BK470.out 1; have hfz21_2 := blk_frozen BK470.out 2; have hfz21_3 := blk_frozen BK470.out 3; have hfz21_4 := blk_frozen BK470.out 4; have hfz21_5 := blk_frozen BK470.out 5) | ((with_reducible refine gate_callee (f := 81) rfl ?_); refine goesL_ (some 10) rfl rfl Tryz.func81 (by kernel_rfl) rfl #[.agg #[.string a0_0, .int .i64 a0_1, .int .i64 a0_2, .int .i64 a0_3, .int .i64 a0_4, .int .i64 a0_5], .int .i64 a1, .slice none 0 0] rfl gZ ?_; (refine (impl_Pipe_code.calls k a0_0 a0_1 a0_2 a0_3 a0_4 a0_5 a1 _ _ ([] : List Int) t471 _ ?side1 ?side2 A3.out).mono ?_); (case side1 => exact Kd.C_nil _ _); (case side2 => exact Nat.le_refl _); rintro e w22 ⟨rfl, hb⟩; refine ⟨_, rfl, ?_⟩; have n0_ := Aside0.mk (blk_below (g := gb470) (o := .cells #[.string a0_0, .int .i64 a0_1, .int .i64 a0_2, .int .i64 a0_3, .int .i64 a0_4, .int .i64 a0_5] 58 (0, 0)) (kZ BK470.out) hb); have n1_ := Aside0.mk (below_step bZ hb); clear BK470; clear HB; have BK470 := n0_; have HB := n1_; clear n0_ n1_; (try clear hb); (try clear hb2); (try clear hk); (try clear hi)))
  go_ret2
  exact ⟨eZ, bZ⟩
def impl_divUp.f (a0 : Int) (a1 : Int) : Option (Int) := if a1 = 0 then (none) else (some (wrap64 (Int.tdiv (wrap64 ((wrap64 (a0 + a1)) - 1)) a1)))
set_option maxHeartbeats 8000000 in
set_option maxRecDepth 100000 in
theorem impl_divUp.calls (a0 : Int) (a1 : Int) (r : Int) (w : World) (h : impl_divUp.f a0 a1 = some r) :
  Calls Tryz.prog 119 #[.int .i64 a0, .int .i64 a1] w fun e w' => e = .returned (.int .i64 r) ∧ Drawn0 w w' := by
 have H : (if a1 = 0 then (none) else (some (wrap64 (Int.tdiv (wrap64 ((wrap64 (a0 + a1)) - 1)) a1)))) = some r := h
 clear h
 by_cases c3 : a1 = 0
 ·rw [if_pos c3] at H
  exact absurd H (by simp)
 ·rw [if_neg c3] at H
  have c3b0 : (a1 == 0) = false := beq_eq_false_iff_ne.mpr c3
  have c3b1 : (a1 != 0) = true := bne_iff_ne.mpr c3
  obtain rfl := Option.some.inj H
  go_enter Tryz.func119, Tryz.ntmps119
  go_wp2
  go_ret
  exact ⟨sZ, dZ⟩
def impl_Pipe_water.f (a0_0 : ByteArray) (a0_1 : Int) (a0_2 : Int) (a0_3 : Int) (a0_4 : Int) (a0_5 : Int) : Option (Int) := (impl_divRound.f (wrap64 ((wrap64 ((wrap64 (a0_3 * a0_4)) * a0_4)) * 7854)) 10000).bind fun t475 => (some t475)
set_option maxHeartbeats 8000000 in
set_option maxRecDepth 100000 in
theorem impl_Pipe_water.calls (a0_0 : ByteArray) (a0_1 : Int) (a0_2 : Int) (a0_3 : Int) (a0_4 : Int) (a0_5 : Int) (r : Int) (w : World) (h : impl_Pipe_water.f a0_0 a0_1 a0_2 a0_3 a0_4 a0_5 = some r) :
  Calls Tryz.prog 120 #[.agg #[.string a0_0, .int .i64 a0_1, .int .i64 a0_2, .int .i64 a0_3, .int .i64 a0_4, .int .i64 a0_5]] w fun e w' => e = .returned (.int .i64 r) ∧ Below w.heap.size w w' := by
 have hu58 := Tryz.underlying58
 have HB := Aside0.mk (Below.refl w.heap.size w)
 have H : ((impl_divRound.f (wrap64 ((wrap64 ((wrap64 (a0_3 * a0_4)) * a0_4)) * 7854)) 10000).bind fun t475 => (some t475)) = some r := h
 clear h
 replace H := Option.bind_eq_some_iff.mp H
 obtain ⟨t475, A20, H⟩ := H
 replace H : (some t475) = some r := H
 have A2 := Aside0.mk A20
 clear A20
 obtain rfl := Option.some.inj H
 go_enter Tryz.func120, Tryz.ntmps120
 go_wp2_with (first | ((with_reducible refine gate_dst (N := 1) rfl ?_); refine boxZ 1 #[.string a0_0, .int .i64 a0_1, .int .i64 a0_2, .int .i64 a0_3, .int .i64 a0_4, .int .i64 a0_5] 58 rfl rfl ?_; intro gb474 hg w3 hbox hb; have n0_ := Aside0.mk (below_step bZ hb); have n1_ := Aside0.mk (hbox); have n2_ := Aside0.mk ((by rw [hg]; exact bsZ : w.heap.size ≤ gb474)); have n3_ := Aside0.mk ((by rw [hg]; exact bsZ : w.heap.size ≤ gb474)); clear HB; have HB := n0_; have BK474 := n1_; have GW474 := n2_; have GE474 := n3_; clear n0_ n1_ n2_ n3_; clear hb hbox hg; have hcz4_0 := bc0 BK474.out; have hcz4_1 := bc1 BK474.out; have hcz4_2 := bc2 BK474.out; have hcz4_3 := bc3 BK474.out; have hcz4_4 := bc4 BK474.out; have hcz4_5 := bc5 BK474.out; have hfz4_0 := blk_frozen BK474.out 0; have hfz4_1 := blk_frozen BK474.out 1; have hfz4_2 := blk_frozen BK474.out 2; have hfz4_3 := blk_frozen BK474.out 3; have hfz4_4 := blk_frozen BK474.out 4; have hfz4_5 := blk_frozen BK474.out 5) | ((with_reducible refine gate_callee (f := 118) rfl ?_); refine goesL_ (some 12) rfl rfl Tryz.func118 (by kernel_rfl) rfl #[.int .i64 (wrap64 ((wrap64 ((wrap64 (a0_3 * a0_4)) * a0_4)) * 7854)), .int .i64 10000] rfl gZ ?_; (with_reducible refine (impl_divRound.calls (wrap64 ((wrap64 ((wrap64 (a0_3 * a0_4)) * a0_4)) * 7854)) 10000 t475 _ A2.out).mono ?_); rintro e w5 ⟨rfl, hb⟩; refine ⟨_, rfl, ?_⟩; have n0_ := Aside0.mk (blk_below (g := gb474) (o := .cells #[.string a0_0, .int .i64 a0_1, .int .i64 a0_2, .int .i64 a0_3, .int .i64 a0_4, .int .i64 a0_5] 58 (0, 0)) (kZ BK474.out) hb); have n1_ := Aside0.mk (below_step bZ hb); clear BK474; clear HB; have BK474 := n0_; have HB := n1_; clear n0_ n1_; (try clear hb); (try clear hb2); (try clear hk); (try clear hi)))
 go_ret
 exact ⟨eZ, bZ⟩
def impl_Pipe_delay.f (a0_0 : ByteArray) (a0_1 : Int) (a0_2 : Int) (a0_3 : Int) (a0_4 : Int) (a0_5 : Int) (a1 : Int) : Option (Int) := (impl_Pipe_water.f a0_0 a0_1 a0_2 a0_3 a0_4 a0_5).bind fun t477 => ((impl_abs.f a1).bind fun t478 => ((impl_divUp.f t477 t478).bind fun t479 => (some t479)))
set_option maxHeartbeats 8000000 in
set_option maxRecDepth 100000 in
theorem impl_Pipe_delay.calls (a0_0 : ByteArray) (a0_1 : Int) (a0_2 : Int) (a0_3 : Int) (a0_4 : Int) (a0_5 : Int) (a1 : Int) (r : Int) (w : World) (h : impl_Pipe_delay.f a0_0 a0_1 a0_2 a0_3 a0_4 a0_5 a1 = some r) :
  Calls Tryz.prog 83 #[.agg #[.string a0_0, .int .i64 a0_1, .int .i64 a0_2, .int .i64 a0_3, .int .i64 a0_4, .int .i64 a0_5], .int .i64 a1] w fun e w' => e = .returned (.int .i64 r) ∧ Below w.heap.size w w' := by
 have hu58 := Tryz.underlying58
 have HB := Aside0.mk (Below.refl w.heap.size w)
 have H : ((impl_Pipe_water.f a0_0 a0_1 a0_2 a0_3 a0_4 a0_5).bind fun t477 => ((impl_abs.f a1).bind fun t478 => ((impl_divUp.f t477 t478).bind fun t479 => (some t479)))) = some r := h
 clear h
 replace H := Option.bind_eq_some_iff.mp H
 obtain ⟨t477, A30, H⟩ := H
 replace H : ((impl_abs.f a1).bind fun t478 => ((impl_divUp.f t477 t478).bind fun t479 => (some t479))) = some r := H
 have A3 := Aside0.mk A30
 clear A30
 replace H := Option.bind_eq_some_iff.mp H
 obtain ⟨t478, A40, H⟩ := H
 replace H : ((impl_divUp.f t477 t478).bind fun t479 => (some t479)) = some r := H
 have A4 := Aside0.mk A40
 clear A40
 replace H := Option.bind_eq_some_iff.mp H
 obtain ⟨t479, A50, H⟩ := H
 replace H : (some t479) = some r := H
 have A5 := Aside0.mk A50
 clear A50
 obtain rfl := Option.some.inj H
 go_enter Tryz.func83, Tryz.ntmps83
 go_wp2_with (first | ((with_reducible refine gate_dst (N := 2) rfl ?_); refine boxZ 2 #[.string a0_0, .int .i64 a0_1, .int .i64 a0_2, .int .i64 a0_3, .int .i64 a0_4, .int .i64 a0_5] 58 rfl rfl ?_; intro gb476 hg w6 hbox hb; have n0_ := Aside0.mk (below_step bZ hb); have n1_ := Aside0.mk (hbox); have n2_ := Aside0.mk ((by rw [hg]; exact bsZ : w.heap.size ≤ gb476)); have n3_ := Aside0.mk ((by rw [hg]; exact bsZ : w.heap.size ≤ gb476)); clear HB; have HB := n0_; have BK476 := n1_; have GW476 := n2_; have GE476 := n3_; clear n0_ n1_ n2_ n3_; clear hb hbox hg; have hcz7_0 := bc0 BK476.out; have hcz7_1 := bc1 BK476.out; have hcz7_2 := bc2 BK476.out; have hcz7_3 := bc3 BK476.out; have hcz7_4 := bc4 BK476.out; have hcz7_5 := bc5 BK476.out; have hfz7_0 := blk_frozen BK476.out 0; have hfz7_1 := blk_frozen BK476.out 1; have hfz7_2 := blk_frozen BK476.out 2; have hfz7_3 := blk_frozen BK476.out 3; have hfz7_4 := blk_frozen BK476.out 4; have hfz7_5 := blk_frozen BK476.out 5) | ((with_reducible refine gate_callee (f := 120) rfl ?_); refine goesL_ (some 6) rfl rfl Tryz.func120 (by kernel_rfl) rfl #[.agg #[.string a0_0, .int .i64 a0_1, .int .i64 a0_2, .int .i64 a0_3, .int .i64 a0_4, .int .i64 a0_5]] rfl gZ ?_; (with_reducible refine (impl_Pipe_water.calls a0_0 a0_1 a0_2 a0_3 a0_4 a0_5 t477 _ A3.out).mono ?_); rintro e w8 ⟨rfl, hb⟩; refine ⟨_, rfl, ?_⟩; have n0_ := Aside0.mk (blk_below (g := gb476) (o := .cells #[.string a0_0, .int .i64 a0_1, .int .i64 a0_2, .int .i64 a0_3, .int .i64 a0_4, .int .i64 a0_5] 58 (0, 0)) (kZ BK476.out) hb); have n1_ := Aside0.mk (below_step bZ hb); clear BK476; clear HB; have BK476 := n0_; have HB := n1_; clear n0_ n1_; (try clear hb); (try clear hb2); (try clear hk); (try clear hi)) | ((with_reducible refine gate_callee (f := 40) rfl ?_); refine goesL_ (some 8) rfl rfl Tryz.func40 (by kernel_rfl) rfl #[.int .i64 a1] rfl gZ ?_; (with_reducible refine (impl_abs.calls a1 t478 _ A4.out).mono ?_); rintro e w9 ⟨rfl, hb⟩; refine ⟨_, rfl, ?_⟩; have n0_ := Aside0.mk (blk_below (g := gb476) (o := .cells #[.string a0_0, .int .i64 a0_1, .int .i64 a0_2, .int .i64 a0_3, .int .i64 a0_4, .int .i64 a0_5] 58 (0, 0)) (kZ BK476.out) hb); have n1_ := Aside0.mk (below_step bZ hb); clear BK476; clear HB; have BK476 := n0_; have HB := n1_; clear n0_ n1_; (try clear hb); (try clear hb2); (try clear hk); (try clear hi)) | ((with_reducible refine gate_callee (f := 119) rfl ?_); refine goesL_ (some 9) rfl rfl Tryz.func119 (by kernel_rfl) rfl #[.int .i64 t477, .int .i64 t478] rfl gZ ?_; (with_reducible refine (impl_divUp.calls t477 t478 t479 _ A5.out).mono ?_); rintro e w' ⟨rfl, ⟨nd, rfl⟩⟩; refine ⟨_, rfl, ?_⟩))
 go_ret
 exact ⟨eZ, bZ⟩
def impl_DelayOf.f (k : Nat) (a0_0 : ByteArray) (a0_1 : Int) (a0_2 : Int) (a0_3 : Int) (a0_4 : Int) (a0_5 : Int) (a1 : Int) : Option (Int × Int) := (impl_Pipe_code.f k a0_0 a0_1 a0_2 a0_3 a0_4 a0_5 a1 ([] : List Int)).bind fun t481 => (if t481 = 0 then (if a1 = 0 then (some (0, 6)) else ((impl_Pipe_delay.f a0_0 a0_1 a0_2 a0_3 a0_4 a0_5 a1).bind fun t482 => (some (t482, 0)))) else (some (0, t481)))
set_option maxHeartbeats 8000000 in
set_option maxRecDepth 100000 in
theorem impl_DelayOf.calls (k : Nat) (a0_0 : ByteArray) (a0_1 : Int) (a0_2 : Int) (a0_3 : Int) (a0_4 : Int) (a0_5 : Int) (a1 : Int) (r1 : Int) (r2 : Int) (w : World) (h : impl_DelayOf.f k a0_0 a0_1 a0_2 a0_3 a0_4 a0_5 a1 = some (r1, r2)) :
  Calls Tryz.prog 51 #[.agg #[.string a0_0, .int .i64 a0_1, .int .i64 a0_2, .int .i64 a0_3, .int .i64 a0_4, .int .i64 a0_5], .int .i64 a1] w fun e w' => e = .returned (.tuple #[.int .i64 r1, .int .i64 r2]) ∧ Below w.heap.size w w' := by
 have hu58 := Tryz.underlying58
 have HB := Aside0.mk (Below.refl w.heap.size w)
 have H : ((impl_Pipe_code.f k a0_0 a0_1 a0_2 a0_3 a0_4 a0_5 a1 ([] : List Int)).bind fun t481 => (if t481 = 0 then (if a1 = 0 then (some (0, 6)) else ((impl_Pipe_delay.f a0_0 a0_1 a0_2 a0_3 a0_4 a0_5 a1).bind fun t482 => (some (t482, 0)))) else (some (0, t481)))) = some (r1, r2) := h
 clear h
 replace H := Option.bind_eq_some_iff.mp H
 obtain ⟨t481, A30, H⟩ := H
 replace H : (if t481 = 0 then (if a1 = 0 then (some (0, 6)) else ((impl_Pipe_delay.f a0_0 a0_1 a0_2 a0_3 a0_4 a0_5 a1).bind fun t482 => (some (t482, 0)))) else (some (0, t481))) = some (r1, r2) := H
 have A3 := Aside0.mk A30
 clear A30
 by_cases c4 : t481 = 0
 ·rw [if_pos c4] at H
  have c4b0 : (t481 == 0) = true := beq_iff_eq.mpr c4
  have c4b1 : (t481 != 0) = false := bne_eq_false_iff_eq.mpr c4
  clear c4
  by_cases c5 : a1 = 0
  ·rw [if_pos c5] at H
   have c5b0 : (a1 == 0) = true := beq_iff_eq.mpr c5
   have c5b1 : (a1 != 0) = false := bne_eq_false_iff_eq.mpr c5
   clear c5
   simp only [Option.some.injEq, Prod.mk.injEq] at H
   obtain ⟨rfl, rfl⟩ := H
   go_enter Tryz.func51, Tryz.ntmps51
   go_wp2_with (first | ((with_reducible refine gate_dst (N := 2) rfl ?_); refine boxZ 2 #[.string a0_0, .int .i64 a0_1, .int .i64 a0_2, .int .i64 a0_3, .int .i64 a0_4, .int .i64 a0_5] 58 rfl rfl ?_; intro gb480 hg w6 hbox hb; have n0_ := Aside0.mk (below_step bZ hb); have n1_ := Aside0.mk (hbox); have n2_ := Aside0.mk ((by rw [hg]; exact bsZ : w.heap.size ≤ gb480)); have n3_ := Aside0.mk ((by rw [hg]; exact bsZ : w.heap.size ≤ gb480)); clear HB; have HB := n0_; have BK480 := n1_; have GW480 := n2_; have GE480 := n3_; clear n0_ n1_ n2_ n3_; clear hb hbox hg; have hcz7_0 := bc0 BK480.out; have hcz7_1 := bc1 BK480.out; have hcz7_2 := bc2 BK480.out; have hcz7_3 := bc3 BK480.out; have hcz7_4 := bc4 BK480.out; have hcz7_5 := bc5 BK480.out; have hfz7_0 := blk_frozen BK480.out 0; have hfz7_1 := blk_frozen BK480.out 1; have hfz7_2 := blk_frozen BK480.out 2; have hfz7_3 := blk_frozen BK480.out 3; have hfz7_4 := blk_frozen BK480.out 4; have hfz7_5 := blk_frozen BK480.out 5) | ((with_reducible refine gate_callee (f := 81) rfl ?_); refine goesL_ (some 9) rfl rfl Tryz.func81 (by kernel_rfl) rfl #[.agg #[.string a0_0, .int .i64 a0_1, .int .i64 a0_2, .int .i64 a0_3, .int .i64 a0_4, .int .i64 a0_5], .int .i64 a1, .slice none 0 0] rfl gZ ?_; (refine (impl_Pipe_code.calls k a0_0 a0_1 a0_2 a0_3 a0_4 a0_5 a1 _ _ ([] : List Int) t481 _ ?side1 ?side2 A3.out).mono ?_); (case side1 => exact Kd.C_nil _ _); (case side2 => exact Nat.le_refl _); rintro e w8 ⟨rfl, hb⟩; refine ⟨_, rfl, ?_⟩; have n0_ := Aside0.mk (blk_below (g := gb480) (o := .cells #[.string a0_0, .int .i64 a0_1, .int .i64 a0_2, .int .i64 a0_3, .int .i64 a0_4, .int .i64 a0_5] 58 (0, 0)) (kZ BK480.out) hb); have n1_ := Aside0.mk (below_step bZ hb); clear BK480; clear HB; have BK480 := n0_; have HB := n1_; clear n0_ n1_; (try clear hb); (try clear hb2); (try clear hk); (try clear hi)))
   go_ret2
   exact ⟨eZ, bZ⟩
  ·rw [if_neg c5] at H
   have c5b0 : (a1 == 0) = false := beq_eq_false_iff_ne.mpr c5
   have c5b1 : (a1 != 0) = true := bne_iff_ne.mpr c5
   replace H := Option.bind_eq_some_iff.mp H
   obtain ⟨t482, A90, H⟩ := H
   replace H : (some (t482, 0)) = some (r1, r2) := H
   have A9 := Aside0.mk A90
   clear A90
   simp only [Option.some.injEq, Prod.mk.injEq] at H
   obtain ⟨rfl, rfl⟩ := H
   go_enter Tryz.func51, Tryz.ntmps51
   go_wp2_with (first | ((with_reducible refine gate_dst (N := 2) rfl ?_); refine boxZ 2 #[.string a0_0, .int .i64 a0_1, .int .i64 a0_2, .int .i64 a0_3, .int .i64 a0_4, .int .i64 a0_5] 58 rfl rfl ?_; intro gb480 hg w10 hbox hb; have n0_ := Aside0.mk (below_step bZ hb); have n1_ := Aside0.mk (hbox); have n2_ := Aside0.mk ((by rw [hg]; exact bsZ : w.heap.size ≤ gb480)); have n3_ := Aside0.mk ((by rw [hg]; exact bsZ : w.heap.size ≤ gb480)); clear HB; have HB := n0_; have BK480 := n1_; have GW480 := n2_; have GE480 := n3_; clear n0_ n1_ n2_ n3_; clear hb hbox hg; have hcz11_0 := bc0 BK480.out; have hcz11_1 := bc1 BK480.out; have hcz11_2 := bc2 BK480.out; have hcz11_3 := bc3 BK480.out; have hcz11_4 := bc4 BK480.out; have hcz11_5 := bc5 BK480.out; have hfz11_0 := blk_frozen BK480.out 0; have hfz11_1 := blk_frozen BK480.out 1; have hfz11_2 := blk_frozen BK480.out 2; have hfz11_3 := blk_frozen BK480.out 3; have hfz11_4 := blk_frozen BK480.out 4; have hfz11_5 := blk_frozen BK480.out 5) | ((with_reducible refine gate_callee (f := 81) rfl ?_); refine goesL_ (some 9) rfl rfl Tryz.func81 (by kernel_rfl) rfl #[.agg #[.string a0_0, .int .i64 a0_1, .int .i64 a0_2, .int .i64 a0_3, .int .i64 a0_4, .int .i64 a0_5], .int .i64 a1, .slice none 0 0] rfl gZ ?_; (refine (impl_Pipe_code.calls k a0_0 a0_1 a0_2 a0_3 a0_4 a0_5 a1 _ _ ([] : List Int) t481 _ ?side1 ?side2 A3.out).mono ?_); (case side1 => exact Kd.C_nil _ _); (case side2 => exact Nat.le_refl _); rintro e w12 ⟨rfl, hb⟩; refine ⟨_, rfl, ?_⟩; have n0_ := Aside0.mk (blk_below (g := gb480) (o := .cells #[.string a0_0, .int .i64 a0_1, .int .i64 a0_2, .int .i64 a0_3, .int .i64 a0_4, .int .i64 a0_5] 58 (0, 0)) (kZ BK480.out) hb); have n1_ := Aside0.mk (below_step bZ hb); clear BK480; clear HB; have BK480 := n0_; have HB := n1_; clear n0_ n1_; (try clear hb); (try clear hb2); (try clear hk); (try clear hi); have hcz13_0 := bc0 BK480.out; have hcz13_1 := bc1 BK480.out; have hcz13_2 := bc2 BK480.out; have hcz13_3 := bc3 BK480.out; have hcz13_4 := bc4 BK480.out; have hcz13_5 := bc5 BK480.out; have hfz13_0 := blk_frozen BK480.out 0; have hfz13_1 := blk_frozen BK480.out 1; have hfz13_2 := blk_frozen BK480.out 2; have hfz13_3 := blk_frozen BK480.out 3; have hfz13_4 := blk_frozen BK480.out 4; have hfz13_5 := blk_frozen BK480.out 5) | ((with_reducible refine gate_callee (f := 83) rfl ?_); refine goesL_ (some 17) rfl rfl Tryz.func83 (by kernel_rfl) rfl #[.agg #[.string a0_0, .int .i64 a0_1, .int .i64 a0_2, .int .i64 a0_3, .int .i64 a0_4, .int .i64 a0_5], .int .i64 a1] rfl gZ ?_; (with_reducible refine (impl_Pipe_delay.calls a0_0 a0_1 a0_2 a0_3 a0_4 a0_5 a1 t482 _ A9.out).mono ?_); rintro e w14 ⟨rfl, hb⟩; refine ⟨_, rfl, ?_⟩; have n0_ := Aside0.mk (blk_below (g := gb480) (o := .cells #[.string a0_0, .int .i64 a0_1, .int .i64 a0_2, .int .i64 a0_3, .int .i64 a0_4, .int .i64 a0_5] 58 (0, 0)) (kZ BK480.out) hb); have n1_ := Aside0.mk (below_step bZ hb); clear BK480; clear HB; have BK480 := n0_; have HB := n1_; clear n0_ n1_; (try clear hb); (try clear hb2); (try clear hk); (try clear hi)))
   go_ret2
   exact ⟨eZ, bZ⟩
 ·rw [if_neg c4] at H
  have c4b0 : (t481 == 0) = false := beq_eq_false_iff_ne.mpr c4
  have c4b1 : (t481 != 0) = true := bne_iff_ne.mpr c4
  simp only [Option.some.injEq, Prod.mk.injEq] at H
  obtain ⟨rfl, rfl⟩ := H
  go_enter Tryz.func51, Tryz.ntmps51
  go_wp2_with (first | ((with_reducible refine gate_dst (N := 2) rfl ?_); refine boxZ 2 #[.string a0_0, .int .i64 a0_1, .int .i64 a0_2, .int .i64 a0_3, .int .i64 a0_4, .int .i64 a0_5] 58 rfl rfl ?_; intro gb480 hg w15 hbox hb; have n0_ := Aside0.mk (below_step bZ hb); have n1_ := Aside0.mk (hbox); have n2_ := Aside0.mk ((by rw [hg]; exact bsZ : w.heap.size ≤ gb480)); have n3_ := Aside0.mk ((by rw [hg]; exact bsZ : w.heap.size ≤ gb480)); clear HB; have HB := n0_; have BK480 := n1_; have GW480 := n2_; have GE480 := n3_; clear n0_ n1_ n2_ n3_; clear hb hbox hg; have hcz16_0 := bc0 BK480.out; have hcz16_1 := bc1 BK480.out; have hcz16_2 := bc2 BK480.out; have hcz16_3 := bc3 BK480.out; have hcz16_4 := bc4 BK480.out; have hcz16_5 := bc5 BK480.out; have hfz16_0 := blk_frozen BK480.out 0; have hfz16_1 := blk_frozen BK480.out 1; have hfz16_2 := blk_frozen BK480.out 2; have hfz16_3 := blk_frozen BK480.out 3; have hfz16_4 := blk_frozen BK480.out 4; have hfz16_5 := blk_frozen BK480.out 5) | ((with_reducible refine gate_callee (f := 81) rfl ?_); refine goesL_ (some 9) rfl rfl Tryz.func81 (by kernel_rfl) rfl #[.agg #[.string a0_0, .int .i64 a0_1, .int .i64 a0_2, .int .i64 a0_3, .int .i64 a0_4, .int .i64 a0_5], .int .i64 a1, .slice none 0 0] rfl gZ ?_; (refine (impl_Pipe_code.calls k a0_0 a0_1 a0_2 a0_3 a0_4 a0_5 a1 _ _ ([] : List Int) t481 _ ?side1 ?side2 A3.out).mono ?_); (case side1 => exact Kd.C_nil _ _); (case side2 => exact Nat.le_refl _); rintro e w17 ⟨rfl, hb⟩; refine ⟨_, rfl, ?_⟩; have n0_ := Aside0.mk (blk_below (g := gb480) (o := .cells #[.string a0_0, .int .i64 a0_1, .int .i64 a0_2, .int .i64 a0_3, .int .i64 a0_4, .int .i64 a0_5] 58 (0, 0)) (kZ BK480.out) hb); have n1_ := Aside0.mk (below_step bZ hb); clear BK480; clear HB; have BK480 := n0_; have HB := n1_; clear n0_ n1_; (try clear hb); (try clear hb2); (try clear hk); (try clear hi)))
  go_ret2
  exact ⟨eZ, bZ⟩
end Go.Proofs.YtadaegehdcngdaaGreatDoor.XV
end
