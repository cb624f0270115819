/- The law FnPages: part 1 of its texts, joined (wip/pack.py). -/
import Derived.Test.YtpkcjkfkohmcfaaKFnPagesa
import Derived.Test.YtpkcjkfkohmcfaaProg
import Derived.Below
import Derived.Deep.Draws
import Derived.Deep.AppendLies
import Derived.Maps.AppendAt
import Derived.OwnWalk
import Derived.Laws.BytesArg
import Derived.Laws.MakeOwn
import Derived.Laws.OwnMore
import Derived.Deep.OwnRows
import Derived.Tactics
import Derived.Lib.ConvBytes
import Derived.Laws.Slices
import Derived.WalkKit
import Derived.KernelRfl
import Derived.RowKit3
import Derived.Deep.LoopGhost
import Derived.Deep.QuietTactic
import Derived.BigQuiet
import Derived.WideLaws
import Derived.Deep.DeepCutAuto
import Derived.Deep.CutBlock
import Derived.Deep.RegionHeld3
import Derived.Laws.Rows
import Derived.Lib.AppendStr
import Derived.ArgAppend
import Derived.Laws.IdiomCopy
import Derived.OrdersHeld
import Derived.Laws.BitsLemmas
import Derived.RowKit
import Derived.RangeFuncBox
import Derived.RangeFuncLeaves
import Derived.RangeFuncCalls
import Derived.Orders
import Derived.Shelf.Abstract
import Derived.OwnWalkIn
import Derived.TacticsInMore
import Derived.LoopNIn
import Derived.LoopIn

section
namespace Go.Proofs.YtpkcjkfkohmcfaaW.PrintWords
theorem Reps.one {α : Type} {R : α → List Value → Prop} {ps : List α} {cs : List Value} {p : α} {v : Value} (hp : R p [v]) (h : Reps R 1 ps cs) : Reps R 1 (p :: ps) (v :: cs) := by
  refine ⟨by simp [h.1], fun j q hq => ?_⟩
  cases j with
  | zero =>
    simp only [List.getElem?_cons_zero, Option.some.injEq] at hq
    subst hq
    simpa using hp
  | succ j =>
    simp only [List.getElem?_cons_succ] at hq
    have h1 := h.2 j q hq
    simpa [Nat.mul_one] using h1
theorem Reps.front {α : Type} {R : α → List Value → Prop} {size : Nat} {ps : List α} {cs c all : List Value} {p : α} (hp : R p c) (hc : c.length = size) (h : Reps R size ps cs) (ha : c ++ cs = all) : Reps R size (p :: ps) all := by
  subst ha
  refine ⟨by rw [List.length_append, hc, h.1, List.length_cons, Nat.succ_mul, Nat.add_comm], fun j q hq => ?_⟩
  cases j with
  | zero =>
    simp only [List.getElem?_cons_zero, Option.some.injEq] at hq
    subst hq
    rw [Nat.zero_mul, List.drop_zero, List.take_append_of_le_length (by omega), List.take_of_length_le (by omega)]
    exact hp
  | succ j =>
    simp only [List.getElem?_cons_succ] at hq
    have h1 := h.2 j q hq
    rw [Nat.succ_mul, List.drop_append, List.drop_of_length_le (by rw [hc]; exact Nat.le_add_left _ _), List.nil_append, hc, Nat.add_sub_cancel]
    exact h1
theorem Reps.c2 {α : Type} {R : α → List Value → Prop} {ps : List α} {cs : List Value} {p : α} {va vb : Value} (hp : R p [va, vb]) (h : Reps R 2 ps cs) : Reps R 2 (p :: ps) (va :: vb :: cs) := Reps.front hp rfl h rfl
theorem Reps.c3 {α : Type} {R : α → List Value → Prop} {ps : List α} {cs : List Value} {p : α} {va vb vc : Value} (hp : R p [va, vb, vc]) (h : Reps R 3 ps cs) : Reps R 3 (p :: ps) (va :: vb :: vc :: cs) := Reps.front hp rfl h rfl
theorem Reps.c4 {α : Type} {R : α → List Value → Prop} {ps : List α} {cs : List Value} {p : α} {va vb vc vd : Value} (hp : R p [va, vb, vc, vd]) (h : Reps R 4 ps cs) : Reps R 4 (p :: ps) (va :: vb :: vc :: vd :: cs) := Reps.front hp rfl h rfl
theorem Reps.c5 {α : Type} {R : α → List Value → Prop} {ps : List α} {cs : List Value} {p : α} {va vb vc vd ve : Value} (hp : R p [va, vb, vc, vd, ve]) (h : Reps R 5 ps cs) : Reps R 5 (p :: ps) (va :: vb :: vc :: vd :: ve :: cs) := Reps.front hp rfl h rfl
theorem Reps.c6 {α : Type} {R : α → List Value → Prop} {ps : List α} {cs : List Value} {p : α} {va vb vc vd ve vf : Value} (hp : R p [va, vb, vc, vd, ve, vf]) (h : Reps R 6 ps cs) : Reps R 6 (p :: ps) (va :: vb :: vc :: vd :: ve :: vf :: cs) := Reps.front hp rfl h rfl
theorem Reps.c7 {α : Type} {R : α → List Value → Prop} {ps : List α} {cs : List Value} {p : α} {va vb vc vd ve vf vg : Value} (hp : R p [va, vb, vc, vd, ve, vf, vg]) (h : Reps R 7 ps cs) : Reps R 7 (p :: ps) (va :: vb :: vc :: vd :: ve :: vf :: vg :: cs) := Reps.front hp rfl h rfl
theorem Reps.c8 {α : Type} {R : α → List Value → Prop} {ps : List α} {cs : List Value} {p : α} {va vb vc vd ve vf vg vh : Value} (hp : R p [va, vb, vc, vd, ve, vf, vg, vh]) (h : Reps R 8 ps cs) : Reps R 8 (p :: ps) (va :: vb :: vc :: vd :: ve :: vf :: vg :: vh :: cs) := Reps.front hp rfl h rfl
theorem Reps.c9 {α : Type} {R : α → List Value → Prop} {ps : List α} {cs : List Value} {p : α} {va vb vc vd ve vf vg vh vi : Value} (hp : R p [va, vb, vc, vd, ve, vf, vg, vh, vi]) (h : Reps R 9 ps cs) : Reps R 9 (p :: ps) (va :: vb :: vc :: vd :: ve :: vf :: vg :: vh :: vi :: cs) := Reps.front hp rfl h rfl
theorem Reps.c10 {α : Type} {R : α → List Value → Prop} {ps : List α} {cs : List Value} {p : α} {va vb vc vd ve vf vg vh vi vj : Value} (hp : R p [va, vb, vc, vd, ve, vf, vg, vh, vi, vj]) (h : Reps R 10 ps cs) : Reps R 10 (p :: ps) (va :: vb :: vc :: vd :: ve :: vf :: vg :: vh :: vi :: vj :: cs) := Reps.front hp rfl h rfl
end Go.Proofs.YtpkcjkfkohmcfaaW.PrintWords
end

section
namespace Go.Proofs.Ytpkcjkfkohmcfaa.XN
open Go.RowKit Go.Proofs.YtpkcjkfkohmcfaaW.PrintWords Go.Proofs.YtpkcjkfkohmcfaaW.PrintLast Go.Proofs.YtpkcjkfkohmcfaaW.PrintMore
attribute [local go_sem] run_eql_slice_nil binOp_string_gtr' binOp_string_leq' binOp_string_geq' max2_int min2_int max_two min_two max_three min_three max_four min_four   -- for this text's walks alone
set_option linter.unusedVariables false
set_option linter.unusedSimpArgs false
def errW : Option Int → Value
 | none => .nilIface
 | some c => .iface 0 (.int .i64 c)
theorem errW_none : errW none = .nilIface := rfl
theorem errW_some (c : Int) : errW (some c) = .iface 0 (.int .i64 c) := rfl
theorem info2 : (Try.prog.info? 2).map (fun i => (i.zero, i.size, i.bytes)) = some (some (.int .i64 0), 1, 8) := by kernel_rfl
theorem info9 : (Try.prog.info? 9).map (fun i => (i.zero, i.size, i.bytes)) = some (some (.string ⟨#[]⟩), 1, 16) := by kernel_rfl
theorem info22 : (Try.prog.info? 22).map (fun i => (i.zero, i.size, i.bytes)) = some (some (.slice none 0 0), 1, 24) := by kernel_rfl
def rd_L1 (xs : List (List ByteArray)) (i : Int) : (List ByteArray) := xs.getD i.toNat ([] : List ByteArray)
theorem at_L1 {w : World} {A : Option Addr} {n : Nat} {xs : List (List ByteArray)} (h : Kd.C (Kd.slice 9 Kd.string) w A n xs) (i : Int) (h0 : 0 ≤ i) (h1 : i < n) : ∃ ad A0 c0, A = some ad ∧ w.cell? (ad.add i.toNat) = some (.slice A0 (rd_L1 xs i).length c0) ∧ (rd_L1 xs i).length ≤ c0 ∧ Kd.string.C w A0 (rd_L1 xs i).length (rd_L1 xs i) := by
 obtain ⟨ad, c, e, _, hK, hc0⟩ := Kd.C_get h ([] : List ByteArray) i h0 h1
 have hc : ∀ j u, c[j]? = some u → w.cell? (ad.add (i.toNat * 1 + j)) = some u := hc0
 obtain ⟨A0, c0, rfl, l0, g0⟩ := hK
 exact ⟨ad, A0, c0, e, by have hq := hc 0 _ rfl; rwa [Nat.mul_one, Nat.add_zero] at hq, l0, g0⟩
end Go.Proofs.Ytpkcjkfkohmcfaa.XN
end

section
namespace Go.Proofs.Ytpkcjkfkohmcfaa.XN
open Go.RowKit Go.Proofs.YtpkcjkfkohmcfaaW.PrintWords Go.Proofs.YtpkcjkfkohmcfaaW.PrintLast Go.Proofs.YtpkcjkfkohmcfaaW.PrintMore
attribute [local go_sem] run_eql_slice_nil binOp_string_gtr' binOp_string_leq' binOp_string_geq' max2_int min2_int max_two min_two max_three min_three max_four min_four   -- for this text's walks alone
set_option linter.unusedVariables false
set_option linter.unusedSimpArgs false
def impl_bytesWithin.l0 : Nat → ByteArray → Int → Int → Int → Int → Option (Bool)
 | 0, _, _, _, _, _ => none
 | k + 1, x0, x1, x2, x9, x10 => if x10 < x9 then (if 0 ≤ x10 then (if x10 < (x0.size : Int) then (if (bt x0 x10) < x1 then (some false) else (if (bt x0 x10) > x2 then (some false) else (impl_bytesWithin.l0 k x0 x1 x2 x9 (wrap64 (x10 + 1))))) else (none)) else (none)) else (some true)
def impl_bytesWithin.f (k : Nat) (a0 : ByteArray) (a1 : Int) (a2 : Int) : Option (Bool) := impl_bytesWithin.l0 k a0 a1 a2 (a0.size : Int) 0
set_option maxHeartbeats 8000000 in
set_option maxRecDepth 100000 in
theorem impl_bytesWithin.calls (k : Nat) (a0 : ByteArray) (a1 : Int) (a2 : Int) (r : Bool) (w : World) (h : impl_bytesWithin.f k a0 a1 a2 = some r) :
  Calls Try.prog 40 #[.string a0, .int .u8 a1, .int .u8 a2] w fun e w' => e = .returned (.bool r) ∧ Drawn0 w w' := by
 have H : (impl_bytesWithin.l0 k a0 a1 a2 (a0.size : Int) 0) = some r := h
 clear h
 have H' := Aside0.mk H
 clear H
 go_enter Try.func40, Try.ntmps40
 go_wp2
 go_loopg [10] k (fun kq v10 w' => ∃ (x10_1 : Int), v10 = .int .i64 x10_1 ∧ Aside0 (impl_bytesWithin.l0 kq a0 a1 a2 (a0.size : Int) x10_1 = some r) ∧ Aside0 (kq ≤ k) ∧ Drawn0 w w')
 case atStart => exact ⟨(0), sZ, H', ⟨Nat.le_refl _⟩, dZ⟩
 case round =>
  clear H'; (try clear p2)
  obtain ⟨x10_1, rfl, HA, HK1, ⟨m1, rfl⟩⟩ := hrel
  cases gk with
  | zero => exact absurd HA.out (by simp [impl_bytesWithin.l0])
  | succ k1 =>
   have H := HA.out
   clear HA
   simp only [impl_bytesWithin.l0] at H
   by_cases c4 : x10_1 < (a0.size : Int)
   ·rw [if_pos c4] at H
    have c4b0 : decide (x10_1 < (a0.size : Int)) = true := decide_eq_true c4
    clear c4
    by_cases c5 : 0 ≤ x10_1
    ·rw [if_pos c5] at H
     have c5b0 : decide (0 ≤ x10_1) = true := decide_eq_true c5
     clear c5
     by_cases c6 : x10_1 < (a0.size : Int)
     ·rw [if_pos c6] at H
      have c6b0 : decide (x10_1 < (a0.size : Int)) = true := decide_eq_true c6
      clear c6
      by_cases c8 : (bt a0 x10_1) < a1
      ·rw [if_pos c8] at H
       have c8b0 : decide ((bt a0 x10_1) < a1) = true := decide_eq_true c8
       clear c8
       obtain rfl := Option.some.inj H
       have p7 : 0 ≤ (x10_1 : Int) := oZ
       have q7 : x10_1 < (a0.size : Int) := oZ
       have hx7 := bt_at a0 x10_1
       replace p7 := eq_true p7
       replace q7 := eq_true q7
       go_wp2
       go_ret
       exact ⟨sZ, dZ⟩
      ·rw [if_neg c8] at H
       have c8b0 : decide ((bt a0 x10_1) < a1) = false := decide_eq_false c8
       clear c8
       by_cases c10 : (bt a0 x10_1) > a2
       ·rw [if_pos c10] at H
        have c10b0 : decide (a2 < (bt a0 x10_1)) = true := decide_eq_true c10
        clear c10
        obtain rfl := Option.some.inj H
        have p7 : 0 ≤ (x10_1 : Int) := oZ
        have q7 : x10_1 < (a0.size : Int) := oZ
        have hx7 := bt_at a0 x10_1
        replace p7 := eq_true p7
        replace q7 := eq_true q7
        have p9 : 0 ≤ (x10_1 : Int) := oZ
        have q9 : x10_1 < (a0.size : Int) := oZ
        have hx9 := bt_at a0 x10_1
        replace p9 := eq_true p9
        replace q9 := eq_true q9
        go_wp2
        go_ret
        exact ⟨sZ, dZ⟩
       ·rw [if_neg c10] at H
        have c10b0 : decide (a2 < (bt a0 x10_1)) = false := decide_eq_false c10
        clear c10
        have H' := Aside0.mk H
        clear H
        have p7 : 0 ≤ (x10_1 : Int) := oZ
        have q7 : x10_1 < (a0.size : Int) := oZ
        have hx7 := bt_at a0 x10_1
        replace p7 := eq_true p7
        replace q7 := eq_true q7
        have p9 : 0 ≤ (x10_1 : Int) := oZ
        have q9 : x10_1 < (a0.size : Int) := oZ
        have hx9 := bt_at a0 x10_1
        replace p9 := eq_true p9
        replace q9 := eq_true q9
        go_wp2
        go_roundg k1
        case measure => have := HK1.out; omega
        case rel => exact ⟨(wrap64 (x10_1 + 1)), sZ, H', ⟨by have := HK1.out; omega⟩, dZ⟩
     ·rw [if_neg c6] at H
      exact absurd H (by simp)
    ·rw [if_neg c5] at H
     exact absurd H (by simp)
   ·rw [if_neg c4] at H
    have c4b0 : decide (x10_1 < (a0.size : Int)) = false := decide_eq_false c4
    clear c4
    obtain rfl := Option.some.inj H
    go_wp2
    go_ret
    exact ⟨sZ, dZ⟩
def impl_lineValid.f (k : Nat) (a0 : ByteArray) : Option (Bool) := if (a0.size : Int) ≤ 100 then ((impl_bytesWithin.f k a0 32 126).bind fun t146 => (some t146)) else (some false)
set_option maxHeartbeats 8000000 in
set_option maxRecDepth 100000 in
theorem impl_lineValid.calls (k : Nat) (a0 : ByteArray) (r : Bool) (w : World) (h : impl_lineValid.f k a0 = some r) :
  Calls Try.prog 27 #[.string a0] w fun e w' => e = .returned (.bool r) ∧ Drawn0 w w' := by
 have H : (if (a0.size : Int) ≤ 100 then ((impl_bytesWithin.f k a0 32 126).bind fun t146 => (some t146)) else (some false)) = some r := h
 clear h
 by_cases c2 : (a0.size : Int) ≤ 100
 ·rw [if_pos c2] at H
  have c2b0 : decide ((a0.size : Int) ≤ 100) = true := decide_eq_true c2
  have c2b1 : decide (a0.size ≤ 100) = true := decide_eq_true (by omega)
  clear c2
  replace H := Option.bind_eq_some_iff.mp H
  obtain ⟨t146, A30, H⟩ := H
  replace H : (some t146) = some r := H
  have A3 := Aside0.mk A30
  clear A30
  obtain rfl := Option.some.inj H
  go_enter Try.func27, Try.ntmps27
  go_wp2_with (first | (go_at_call 40; (with_reducible refine (impl_bytesWithin.calls k a0 32 126 t146 _ A3.out).mono ?_); rintro e w' ⟨rfl, ⟨nd, rfl⟩⟩))
  go_ret
  exact ⟨sZ, dZ⟩
 ·rw [if_neg c2] at H
  have c2b0 : decide ((a0.size : Int) ≤ 100) = false := decide_eq_false c2
  have c2b1 : decide (a0.size ≤ 100) = false := decide_eq_false (by omega)
  clear c2
  obtain rfl := Option.some.inj H
  go_enter Try.func27, Try.ntmps27
  go_wp2
  go_ret
  exact ⟨sZ, dZ⟩
end Go.Proofs.Ytpkcjkfkohmcfaa.XN
end

section
namespace Go.Proofs.Ytpkcjkfkohmcfaa.XN
open Go.RowKit Go.Proofs.YtpkcjkfkohmcfaaW.PrintWords Go.Proofs.YtpkcjkfkohmcfaaW.PrintLast Go.Proofs.YtpkcjkfkohmcfaaW.PrintMore
attribute [local go_sem] run_eql_slice_nil binOp_string_gtr' binOp_string_leq' binOp_string_geq' max2_int min2_int max_two min_two max_three min_three max_four min_four   -- for this text's walks alone
set_option linter.unusedVariables false
set_option linter.unusedSimpArgs false
def impl_ValidReport.l0 : Nat → List ByteArray → Int → Int → Option (Bool)
 | 0, _, _, _ => none
 | k + 1, x8, x9, x10 => if x10 < x9 then (if 0 ≤ x10 then (if x10 < (x8.length : Int) then ((impl_lineValid.f k (rdOf ByteArray.empty x8 x10)).bind fun t148 => (if t148 = true then (impl_ValidReport.l0 k x8 x9 (wrap64 (x10 + 1))) else (some false))) else (none)) else (none)) else (some true)
def impl_ValidReport.f (k : Nat) (l0 : List ByteArray) : Option (Bool) := if (l0.length : Int) > 200 then (some false) else (impl_ValidReport.l0 k l0 (l0.length : Int) 0)
set_option maxHeartbeats 8000000 in
set_option maxRecDepth 100000 in
theorem impl_ValidReport.calls (k : Nat) (A0 : Option Addr) (c0 : Nat) (l0 : List ByteArray) (r : Bool) (w : World) (hr0 : Kd.C Kd.string w A0 l0.length l0) (hc0 : l0.length ≤ c0) (h : impl_ValidReport.f k l0 = some r) :
  Calls Try.prog 25 #[.slice A0 l0.length c0] w fun e w' => e = .returned (.bool r) ∧ Drawn0 w w' := by
 have HR0 := Aside0.mk hr0
 have HC0 := Aside0.mk hc0
 clear hr0 hc0
 have H : (if (l0.length : Int) > 200 then (some false) else (impl_ValidReport.l0 k l0 (l0.length : Int) 0)) = some r := h
 clear h
 by_cases c2 : (l0.length : Int) > 200
 ·rw [if_pos c2] at H
  have c2b0 : decide (200 < (l0.length : Int)) = true := decide_eq_true c2
  have c2b1 : decide (200 < l0.length) = true := decide_eq_true (by omega)
  clear c2
  obtain rfl := Option.some.inj H
  go_enter Try.func25, Try.ntmps25
  go_wp2
  go_ret
  exact ⟨sZ, dZ⟩
 ·rw [if_neg c2] at H
  have c2b0 : decide (200 < (l0.length : Int)) = false := decide_eq_false c2
  have c2b1 : decide (200 < l0.length) = false := decide_eq_false (by omega)
  clear c2
  have H' := Aside0.mk H
  clear H
  go_enter Try.func25, Try.ntmps25
  go_wp2
  go_loopg [10] k (fun kq v10 w' => ∃ (x10_1 : Int), v10 = .int .i64 x10_1 ∧ Aside0 (impl_ValidReport.l0 kq l0 (l0.length : Int) x10_1 = some r) ∧ Aside0 (kq ≤ k) ∧ Drawn0 w w')
  case atStart => exact ⟨(0), sZ, H', ⟨Nat.le_refl _⟩, dZ⟩
  case round =>
   clear H'; (try clear c2); (try clear c2b0); (try clear c2b1); (try clear p2)
   obtain ⟨x10_1, rfl, HA, HK1, ⟨m1, rfl⟩⟩ := hrel
   cases gk with
   | zero => exact absurd HA.out (by simp [impl_ValidReport.l0])
   | succ k1 =>
    have H := HA.out
    clear HA
    simp only [impl_ValidReport.l0] at H
    by_cases c3 : x10_1 < (l0.length : Int)
    ·rw [if_pos c3] at H
     have c3b0 : decide (x10_1 < (l0.length : Int)) = true := decide_eq_true c3
     clear c3
     by_cases c4 : 0 ≤ x10_1
     ·rw [if_pos c4] at H
      have c4b0 : decide (0 ≤ x10_1) = true := decide_eq_true c4
      clear c4
      by_cases c5 : x10_1 < (l0.length : Int)
      ·rw [if_pos c5] at H
       have c5b0 : decide (x10_1 < (l0.length : Int)) = true := decide_eq_true c5
       clear c5
       replace H := Option.bind_eq_some_iff.mp H
       obtain ⟨t148, A60, H⟩ := H
       replace H : (if t148 = true then (impl_ValidReport.l0 k1 l0 (l0.length : Int) (wrap64 (x10_1 + 1))) else (some false)) = some r := H
       have A6 := Aside0.mk A60
       clear A60
       by_cases c7 : t148 = true
       ·subst c7
        have H1 : (impl_ValidReport.l0 k1 l0 (l0.length : Int) (wrap64 (x10_1 + 1))) = some r := by rw [if_pos rfl] at H; exact H
        clear H
        have H := H1
        clear H1
        have H' := Aside0.mk H
        clear H
        have p147 : 0 ≤ (x10_1 : Int) := oZ
        have q147 : x10_1 < (l0.length : Int) := oZ
        obtain ⟨ad147, e147, hx147_0⟩ := Kd.at_string HR0.out x10_1 p147 q147
        cases e147
        replace p147 := eq_true p147
        replace q147 := eq_true q147
        go_wp2_with (first | ((with_reducible refine gate_callee (f := 27) rfl ?_); refine goesL_ (some 15) rfl rfl Try.func27 (by kernel_rfl) rfl #[.string (rdOf ByteArray.empty l0 x10_1)] rfl gZ ?_; (with_reducible refine (impl_lineValid.calls k1 (rdOf ByteArray.empty l0 x10_1) true _ A6.out).mono ?_); rintro e w' ⟨rfl, ⟨nd, rfl⟩⟩; refine ⟨_, rfl, ?_⟩))
        go_roundg k1
        case measure => have := HK1.out; omega
        case rel => exact ⟨(wrap64 (x10_1 + 1)), sZ, H', ⟨by have := HK1.out; omega⟩, dZ⟩
       ·replace c7 := Bool.eq_false_iff.mpr c7
        subst c7
        have H1 : (some false) = some r := by rw [if_neg (show ¬ (false = true) by decide)] at H; exact H
        clear H
        have H := H1
        clear H1
        obtain rfl := Option.some.inj H
        have p147 : 0 ≤ (x10_1 : Int) := oZ
        have q147 : x10_1 < (l0.length : Int) := oZ
        obtain ⟨ad147, e147, hx147_0⟩ := Kd.at_string HR0.out x10_1 p147 q147
        cases e147
        replace p147 := eq_true p147
        replace q147 := eq_true q147
        go_wp2_with (first | ((with_reducible refine gate_callee (f := 27) rfl ?_); refine goesL_ (some 15) rfl rfl Try.func27 (by kernel_rfl) rfl #[.string (rdOf ByteArray.empty l0 x10_1)] rfl gZ ?_; (with_reducible refine (impl_lineValid.calls k1 (rdOf ByteArray.empty l0 x10_1) false _ A6.out).mono ?_); rintro e w' ⟨rfl, ⟨nd, rfl⟩⟩; refine ⟨_, rfl, ?_⟩))
        go_ret
        exact ⟨sZ, dZ⟩
      ·rw [if_neg c5] at H
       exact absurd H (by simp)
     ·rw [if_neg c4] at H
      exact absurd H (by simp)
    ·rw [if_neg c3] at H
     have c3b0 : decide (x10_1 < (l0.length : Int)) = false := decide_eq_false c3
     clear c3
     obtain rfl := Option.some.inj H
     go_wp2
     go_ret
     exact ⟨sZ, dZ⟩
def impl_within.f (a0 : Int) (a1 : Int) (a2 : Int) : Option (Bool) := if a0 ≥ a1 then (some (decide (a0 ≤ a2))) else (some false)
set_option maxHeartbeats 8000000 in
set_option maxRecDepth 100000 in
theorem impl_within.calls (a0 : Int) (a1 : Int) (a2 : Int) (r : Bool) (w : World) (h : impl_within.f a0 a1 a2 = some r) :
  Calls Try.prog 26 #[.int .i64 a0, .int .i64 a1, .int .i64 a2] w fun e w' => e = .returned (.bool r) ∧ Drawn0 w w' := by
 have H : (if a0 ≥ a1 then (some (decide (a0 ≤ a2))) else (some false)) = some r := h
 clear h
 by_cases c4 : a0 ≥ a1
 ·rw [if_pos c4] at H
  have c4b0 : decide (a1 ≤ a0) = true := decide_eq_true c4
  clear c4
  obtain rfl := Option.some.inj H
  go_enter Try.func26, Try.ntmps26
  go_wp2
  go_ret
  exact ⟨sZ, dZ⟩
 ·rw [if_neg c4] at H
  have c4b0 : decide (a1 ≤ a0) = false := decide_eq_false c4
  clear c4
  obtain rfl := Option.some.inj H
  go_enter Try.func26, Try.ntmps26
  go_wp2
  go_ret
  exact ⟨sZ, dZ⟩
end Go.Proofs.Ytpkcjkfkohmcfaa.XN
end

section
namespace Go.Proofs.Ytpkcjkfkohmcfaa.RoundW
open Go.RowKit Go.Proofs.YtpkcjkfkohmcfaaW.PrintWords Go.Proofs.YtpkcjkfkohmcfaaW.PrintLast
variable {P : Program} {Q : Exit → Act → World → Prop} {l n : Nat}
theorem upon_mono {o : Oper} {a : Act} {next next' : Act → World → Prop} (hn : ∀ a w, next a w → next' a w) (r : Result Next) (h : o.upon P a next Q r) : o.upon P a next' Q r := by
  cases r with
  | ok nx w =>
    cases nx with
    | value v => exact hn _ _ h
    | skip => exact hn _ _ h
    | defer d => exact hn _ _ h
    | enter f args =>
      refine Calls.mono h (fun e w' he => ?_)
      cases e with
      | returned v => exact hn _ _ he
      | panicked c => exact he
      | outgrown => exact he
    | row row args => exact Rows.mono h (fun v w' he => hn _ _ he)
    | _ => exact h.elim
  | halt hl w =>
    cases hl with
    | panic v => exact h
    | _ => exact h.elim
theorem uponIn_of {o : Oper} {a : Act} {next : Act → World → Prop} (r : Result Next) (h : o.upon P a next Q r) : o.uponIn (Fence.wide.inRound l) n P a next Q r := by
  cases r with
  | ok nx w =>
    cases nx with
    | value v => exact h
    | skip => exact h
    | defer d => exact h
    | enter f args => exact ⟨fun hd => by simp [Fence.wide] at hd, CallsIn.inRound l (callsIn_wide.2 h)⟩
    | row row args => exact ⟨fun hd => by simp [Fence.wide] at hd, fun c cs _ => let ⟨v, w', r, s⟩ := h c cs; ⟨v, w', r, stepsIn_wide.2 s⟩⟩
    | _ => exact h.elim
  | halt hl w =>
    cases hl with
    | panic v => exact h
    | _ => exact h.elim
theorem wpOpsIn_of {ops : Array Oper} (hQ : ¬ LetsOut Q) (hd : ∀ (i : Nat) (o : Oper), ops[i]? = some o → ∀ c, o.op ≠ .defer c) : ∀ (is : List Nat) (a : Act) (w : World), wpOps P ops Q is a w → wpOpsIn (Fence.wide.inRound l) n P ops Q is a w
  | [], a, w, h => h
  | i :: rest, a, w, h => by
    unfold wpOpsIn
    unfold wpOps at h
    cases ho : ops[i]? with
    | none =>
      rw [ho] at h
      exact wpOpsIn_of hQ hd rest a w h
    | some o =>
      rw [ho] at h
      simp only at h ⊢
      by_cases hw : Region.wanted o (yielded ops a.tmps) = true
      · rw [if_pos hw] at h ⊢
        refine ⟨fun _ _ => trivial, ?_⟩
        rw [Oper.semAt_eq _ _ _ (hd i o ho)]
        rcases h with h | h
        · exact uponIn_of _ (upon_mono (fun a' w' h' => wpOpsIn_of hQ hd rest a' w' h') _ h)
        · exact absurd h.2 hQ
      · rw [if_neg hw] at h ⊢
        exact ⟨fun _ _ => trivial, wpOpsIn_of hQ hd rest _ w h⟩
def noDefer (ops : Array Oper) : Bool := ops.toList.all fun o => match o.op with | .defer _ => false | _ => true
theorem noDefer_at {ops : Array Oper} (h : noDefer ops = true) (i : Nat) (o : Oper) (ho : ops[i]? = some o) (c : Call) : o.op ≠ .defer c := by
  intro e
  have hm : o ∈ ops.toList := by
    rw [← Array.getElem?_toList] at ho
    exact List.mem_of_getElem? ho
  have := List.all_eq_true.1 h o hm
  simp [e] at this
theorem start_in {ops : Array Oper} {S : World → Prop} {ds : List Nat} {id m : Nat} {a : Act} {w : World} (lb : Array Bool) (hQ : ¬ LetsOut Q) (hm : P.follows .mixedOrders = true) (hnd : noDefer ops = true) (hn : ops.size = m) (hl : Array.replicate m false = lb) (hS : S w.drew)
    (h : S w.drew → wpAnyLast P .any ops Q S ds m lb a w.drew) : (Code.region id ops true).wpIn (Fence.wide.inRound l) n P Q a w := by
  subst hn
  subst hl
  refine wpIn_region_draw fun t => wpOpsIn_of hQ (noDefer_at hnd) _ _ _ ?_
  simp only [Region.schedule, hm, Bool.true_or, if_true]
  exact wpAny_sound ops.size t _ a _ (wpAny_of_last _ _ _ _ (h hS))
end Go.Proofs.Ytpkcjkfkohmcfaa.RoundW
end

section
namespace Go.Proofs.Ytpkcjkfkohmcfaa.ChunkS
set_option linter.unusedSimpArgs false
set_option linter.unusedVariables false
open Go.RowKit Go.Proofs.YtpkcjkfkohmcfaaW.PrintWords Go.Proofs.YtpkcjkfkohmcfaaW.PrintLast Go.Proofs.YtpkcjkfkohmcfaaW.PrintMore
attribute [local go_sem] min2_int max2_int min_two max_two
def Kp (Bs Bn : Nat) (X Y : World) : Prop := Y.cell? ⟨Bs, 0, none⟩ = X.cell? ⟨Bs, 0, none⟩ ∧ Y.cell? ⟨Bn, 0, none⟩ = X.cell? ⟨Bn, 0, none⟩
theorem Kp.tr {Bs Bn : Nat} {X Y Z : World} (h : Kp Bs Bn X Y) (k : Kp Bs Bn Y Z) : Kp Bs Bn X Z := ⟨k.1.trans h.1, k.2.trans h.2⟩
theorem Kp.put {Bs Bn : Nat} {w : World} (h1 : Bs < w.heap.size) (h2 : Bn < w.heap.size) (W : World) (l : Nat) (o o' : Obj) (hl : w.heap.size ≤ l) (_ : W.heap[l]? = some o) (_ : o.isCells = false) (_ : o.isWalk = false) : Kp Bs Bn W (W.putObj l o') :=
  ⟨World.cell?_of_block (World.putObj_heap_other (by show Bs ≠ l; omega)), World.cell?_of_block (World.putObj_heap_other (by show Bn ≠ l; omega))⟩
def off (len c j : Nat) : Nat := min (j * c) len
def cnt (len c j : Nat) : Nat := min c (len - off len c j)
def enc (ad : Addr) (len c j : Nat) : Array Value := #[.slice (some (ad.add (off len c j))) (cnt len c j) (cnt len c j)]
def Ends (len c : Nat) (ys : List Nat) : Prop := ∃ q, ys = List.range q ∧ len ≤ q * c ∧ q * c < len + c
theorem infoS : (Try.prog.info? 9).map (fun i => (i.zero, i.size, i.bytes)) = some (some (.string ⟨#[]⟩), 1, 16) := by kernel_rfl
theorem elemS : Try.prog.elem 22 = 9 := by simp [Program.elem, Try.underlying22]
theorem cut_lo (ad : Addr) (len cap k : Nat) (W : World) (hk : k < len) (hc : len ≤ cap) :
    (Instr.slice 22 (.slice (some ad) len cap) (some (.int .i64 (k : Int))) none none).run Try.prog W = .ok (.slice (some (ad.add k)) (len - k) (cap - k)) W := by
  obtain ⟨i0, hi, hz0, hz1, hz2⟩ := info_parts infoS
  have := cut_from (P := Try.prog) 22 9 .i64 Try.underlying22 hi 1 hz1 (some ad) len cap (k : Int) (by omega) (by omega) W
  rw [this]
  simp only [Int.toNat_natCast, if_neg (show ¬ cap = k by omega), Option.map_some, Nat.mul_one]
theorem cut_all (ad : Addr) (len cap k m : Nat) (W : World) (hm : 0 < m) (hk : k + m ≤ len) (hc : len ≤ cap) :
    (Instr.slice 22 (.slice (some ad) len cap) (some (.int .i64 (k : Int))) (some (.int .i64 ((k : Int) + m))) (some (.int .i64 ((k : Int) + m)))).run Try.prog W = .ok (.slice (some (ad.add k)) m m) W := by
  obtain ⟨i0, hi, hz0, hz1, hz2⟩ := info_parts infoS
  have hu : Try.prog.underlying 22 = some (.slice (Try.prog.elem 22)) := by rw [elemS]; exact Try.underlying22
  rw [run_slice_lhm W 22 (some ad) len cap hu .i64 .i64 .i64 k (k + m) (k + m) (by omega) (by omega) (by omega) (by omega), elemS]
  have hsize : (sizeOf 9).run Try.prog W = .ok 1 W := by simp [sizeOf, typeInfo, hi, hz1]
  rw [hsize]
  simp only [Result.andThen_ok, sliced, Int.toNat_natCast, show ((k : Int) + (m : Int)).toNat = k + m by omega, if_neg (show ¬ (k + m = k) by omega), Option.map_some, Nat.mul_one, show k + m - k = m by omega]
def T3 : Bool × List (List Nat × List Nat) := (true, [([], []), ([], []), ([], []), ([1, 2], [1, 2]), ([3], [3]), ([0, 4], [0, 4]), ([5, 0, 1, 2, 3, 4, 5], [5])])
def B3 : List Nat := [0, 0, 0, 6, 14, 31, 63]
theorem tab3 : rtab .any (opsOf Try.f41 3) = T3 := by kernel_rfl
theorem bits3 : waitsOk T3.2 B3 = true := by kernel_rfl
set_option maxRecDepth 100000 in
set_option maxHeartbeats 4000000 in
theorem chunk1_in (n : Nat) (hn : 1 ≤ n) (l Bs Bn : Nat) (ad : Addr) (len cap c : Nat) (hlen : len ≤ 1000000) (hcap : len ≤ cap) (hc0 : 0 < c) (hc1 : c ≤ 1000000) (J Jx : List Nat → World → Prop)
    (hJd : ∀ s W, J s W → J s W.drew)
    (hY : ∀ pre x W, J pre W → pre.length < len → YieldAt Fence.wide (n - 1) Try.prog l (enc ad len c x) W fun e W' =>
      (e = .returned (.bool true) ∧ J (pre ++ [x]) W' ∧ Kp Bs Bn W W') ∨ (e = .returned (.bool false) ∧ Jx (pre ++ [x]) W'))
    (W : World) (hBs : W.cell? ⟨Bs, 0, none⟩ = some (.slice (some ad) len cap)) (hBn : W.cell? ⟨Bn, 0, none⟩ = some (.int .i64 (c : Int))) (h0 : J [] W) :
    CallsIn Fence.wide n Try.prog 41 #[.func (.yield l) #[] #[], .pointer (some ⟨Bs, 0, none⟩), .pointer (some ⟨Bn, 0, none⟩)] W fun e W' => (∃ v, e = .returned v) ∧
      ((∃ ys, Ends len c ys ∧ J ys W') ∨ (∃ pre, True ∧ Jx pre W')) := by
  refine callsIn_of_wp Try.func41 rfl trivial ?_ rfl
  simp only [Try.ntmps41, List.size_toArray, List.length_cons, List.length_nil, Nat.reduceAdd, Nat.reduceSub, Array.replicate_succ, Array.replicate_zero, List.push_toArray, List.append_toArray, List.nil_append, List.cons_append]
  gi_wp2
  gi_loopw [4] (fun i wr => ∃ k : Nat, (k = 0 ∨ (k - 1) * c < len) ∧ i = .int .i64 ((k * c : Nat) : Int) ∧ J (List.range k) wr ∧ Kp Bs Bn W wr)
    (fun i _ => len + c - (intOf i).toNat)
  case atStart => exact ⟨0, .inl rfl, by simp, h0, rfl, rfl⟩
  case round =>
    obtain ⟨k, hk, rfl, hJs, hnx⟩ := hrel
    have hs1 : wr.cell? ⟨Bs, 0, none⟩ = some (.slice (some ad) len cap) := hnx.1.trans hBs
    have hs2 : wr.cell? ⟨Bn, 0, none⟩ = some (.int .i64 (c : Int)) := hnx.2.trans hBn
    have hkc : k * c < len + c := by
      rcases hk with rfl | hk
      · omega
      · cases k with
        | zero => omega
        | succ k => rw [Nat.add_sub_cancel] at hk; rw [Nat.succ_mul]; omega
    by_cases hlt : k * c < len
    · have hkl : k < len := by
        have : k * 1 ≤ k * c := Nat.mul_le_mul_left _ hc0
        omega
      have hoff : off len c k = k * c := by unfold off; omega
      obtain ⟨m, hm⟩ : ∃ m, m = cnt len c k := ⟨_, rfl⟩
      have hm2 : m = min c (len - k * c) := by rw [hm]; unfold cnt; rw [hoff]
      have hm0 : 0 < m := by omega
      have hml : k * c + m ≤ len := by omega
      obtain ⟨fn, tmps, assign, body, hy, hR⟩ := hY _ k wr.drew (hJd _ _ hJs) (by rw [List.length_range]; exact hkl)
      have henc : enc ad len c k = #[.slice (some (ad.add (k * c))) m m] := by unfold enc; rw [hoff, ← hm]
      rw [henc] at hy
      obtain ⟨kc, hkcq⟩ : ∃ kc, kc = k * c := ⟨_, rfl⟩
      rw [← hkcq] at hml hlt hkc hm2 hy ⊢
      have HKC := Aside0.mk hkcq
      have HM := Aside0.mk hm2
      have z1 := fun W' => cut_lo ad len cap kc W' hlt hcap
      have z2 := fun W' => cut_all ad len cap kc m W' hm0 hml hcap
      have z3 : ∀ i : Decidable (len - kc < c), (@ite Int (len - kc < c) i ((len - kc : Nat) : Int) (c : Int)) = (m : Int) := by intro i; split <;> omega
      have HH := Aside0.mk (And.intro hk hkc)
      clear hkcq hm hm2 hoff henc hk hkc hkl
      gi_wp2
      rename_i K1 hK1 K2 hK2
      refine wpIn_wide.2 ?_
      refine start_ (n := 7) (S := fun w' => w'.cell? ⟨Bn, 0, none⟩ = some (.int .i64 (c : Int)) ∧ w'.cell? ⟨Bs, 0, none⟩ = some (.slice (some ad) len cap)) (ds := []) #[false, false, false, false, false, false, false] (by kernel_rfl) rfl rfl ⟨hs2, hs1⟩ (fun hHeld => ?_)
      refine with_tabW tab3 bits3 (fun HT_ HW_ => ?_)
      refine take_ (i := 0) (N := some 13) (v := ?_) (a' := ?_) #[true, false, false, false, false, false, false] rfl rfl (take_ofW HT_.out HW_.out (by kernel_rfl)) (fun _ _ _ h => h) (Or.inl ⟨by rfl, ?_⟩) hHeld ?_ ?_
      rotate_left
      · rintro w' ⟨s0, s1⟩
        go_simp
        with_reducible rfl
      rotate_left
      · simp only [Act.put, List.setIfInBounds_toArray, List.set_cons_zero, List.set_cons_succ, i64_w, i32_w]
        rfl
      refine take_ (i := 1) (N := some 14) (v := ?_) (a' := ?_) #[true, true, false, false, false, false, false] rfl rfl (take_ofW HT_.out HW_.out (by kernel_rfl)) (fun _ _ _ h => h) (Or.inl ⟨by rfl, ?_⟩) hHeld ?_ ?_
      rotate_left
      · rintro w' ⟨s0, s1⟩
        go_simp
        with_reducible rfl
      rotate_left
      · simp only [Act.put, List.setIfInBounds_toArray, List.set_cons_zero, List.set_cons_succ, i64_w, i32_w]
        rfl
      refine pure_ (i := 2) (N := some 15) (v := ?_) (a' := ?_) #[true, true, true, false, false, false, false] rfl rfl (any_of HT_.out (by kernel_rfl)) (fun _ _ _ h => h) (Or.inl ⟨by rfl, ?_⟩) ?_ ?_
      rotate_left
      · intro w'
        go_simp
        with_reducible rfl
      rotate_left
      · simp only [Act.put, List.setIfInBounds_toArray, List.set_cons_zero, List.set_cons_succ, i64_w, i32_w]
        rfl
      refine pure_ (i := 3) (N := some 16) (v := ?_) (a' := ?_) #[true, true, true, true, false, false, false] rfl rfl (any_of HT_.out (by kernel_rfl)) (fun _ _ _ h => h) (Or.inl ⟨by rfl, ?_⟩) ?_ ?_
      rotate_left
      · intro w'
        go_simp
        with_reducible rfl
      rotate_left
      · simp only [Act.put, List.setIfInBounds_toArray, List.set_cons_zero, List.set_cons_succ, i64_w, i32_w]
        rfl
      refine pure_ (i := 4) (N := some 17) (v := ?_) (a' := ?_) #[true, true, true, true, true, false, false] rfl rfl (any_of HT_.out (by kernel_rfl)) (fun _ _ _ h => h) (Or.inl ⟨by rfl, ?_⟩) ?_ ?_
      rotate_left
      · intro w'
        go_simp
        with_reducible rfl
      rotate_left
      · simp only [Act.put, List.setIfInBounds_toArray, List.set_cons_zero, List.set_cons_succ, i64_w, i32_w]
        rfl
      refine pure_ (i := 5) (N := some 18) (v := ?_) (a' := ?_) #[true, true, true, true, true, true, false] rfl rfl (any_of HT_.out (by kernel_rfl)) (fun _ _ _ h => h) (Or.inl ⟨by rfl, ?_⟩) ?_ ?_
      rotate_left
      · intro w'
        go_simp
        with_reducible rfl
      rotate_left
      · simp only [Act.put, List.setIfInBounds_toArray, List.set_cons_zero, List.set_cons_succ, i64_w, i32_w]
        rfl
      refine pure_ (i := 6) (N := some 5) (v := ?_) (a' := ?_) #[true, true, true, true, true, true, true] rfl rfl (any_of HT_.out (by kernel_rfl)) (fun _ _ _ h => h) (Or.inl ⟨by rfl, ?_⟩) ?_ ?_
      rotate_left
      · intro w'
        go_simp
        with_reducible rfl
      rotate_left
      · simp only [Act.put, List.setIfInBounds_toArray, List.set_cons_zero, List.set_cons_succ, i64_w, i32_w]
        rfl
      refine done_ (done_of HT_.out (by kernel_rfl)) ?_
      refine hK2 _ _ ?_
      gi_wp2
      refine hR.mono ?_
      rintro e W3 (⟨rfl, hJ3, hk3⟩ | ⟨rfl, hJx3⟩)
      · have hs3 : W3.cell? ⟨Bn, 0, none⟩ = some (.int .i64 (c : Int)) := hk3.2.trans hs2
        clear hR hy
        gi_wp2
        go_roundw
        case rel =>
          refine ⟨k + 1, .inr (by rw [Nat.add_sub_cancel, ← HKC.out]; exact hlt), ?_, by rw [List.range_succ]; exact hJ3, hnx.tr hk3⟩
          have := HKC.out
          rw [Nat.succ_mul, ← this]
          simp
        case measure => simp [intOf]; omega
      · gi_wp2
        refine bodyPost_ret (results_none rfl _ _ _) rfl ?_
        exact ⟨⟨_, rfl⟩, .inr ⟨_, trivial, hJx3⟩⟩
    · gi_wp2
      go_end0
      refine ⟨⟨_, rfl⟩, .inl ⟨_, ⟨k, rfl, by omega, hkc⟩, hJs⟩⟩
set_option maxRecDepth 100000 in
set_option maxHeartbeats 1000000 in
theorem chunk1_nil_in (n : Nat) (l Bs Bn : Nat) (A : Option Addr) (cap c : Nat) (hc0 : 0 < c) (J Jx : List Nat → World → Prop) (W : World) (hBs : W.cell? ⟨Bs, 0, none⟩ = some (.slice A 0 cap)) (h0 : J [] W) :
    CallsIn Fence.wide n Try.prog 41 #[.func (.yield l) #[] #[], .pointer (some ⟨Bs, 0, none⟩), .pointer (some ⟨Bn, 0, none⟩)] W fun e W' => (∃ v, e = .returned v) ∧
      ((∃ ys, Ends 0 c ys ∧ J ys W') ∨ (∃ pre, True ∧ Jx pre W')) := by
  refine callsIn_of_wp Try.func41 rfl trivial ?_ rfl
  simp only [Try.ntmps41, List.size_toArray, List.length_cons, List.length_nil, Nat.reduceAdd, Nat.reduceSub, Array.replicate_succ, Array.replicate_zero, List.push_toArray, List.append_toArray, List.nil_append, List.cons_append]
  gi_wp2
  gi_loopw [4] (fun i wr => i = .int .i64 0 ∧ wr = W) (fun _ _ => 0)
  case atStart => exact ⟨rfl, rfl⟩
  case round =>
    obtain ⟨rfl, rfl⟩ := hrel
    gi_wp2
    go_end0
    exact ⟨⟨_, rfl⟩, .inl ⟨[], ⟨0, rfl, by omega, by omega⟩, h0⟩⟩
theorem stops (n : Nat) (hn : 1 ≤ n) (Bs Bn : Nat) (A : Option Addr) (len cap c : Nat) (hlen : len ≤ 1000000) (hcap : len ≤ cap) (hA : 0 < len → ∃ ad, A = some ad) (hc0 : 0 < c) (hc1 : c ≤ 1000000) (w : World) (hb1 : Bs < w.heap.size) (hb2 : Bn < w.heap.size)
    (hBs : w.cell? ⟨Bs, 0, none⟩ = some (.slice A len cap)) (hBn : w.cell? ⟨Bn, 0, none⟩ = some (.int .i64 (c : Int))) :
    SeqStopsK Fence.wide n Try.prog 41 #[.pointer (some ⟨Bs, 0, none⟩), .pointer (some ⟨Bn, 0, none⟩)] (fun j : Nat => enc (A.getD ⟨0, 0, none⟩) len c j) (Kp Bs Bn) (Ends len c) (fun _ => True) len w := fun l J Jx W hW hJ _ hY h0 => by
  have hs1 := (hW.cell (p := ⟨Bs, 0, none⟩) hb1).trans hBs
  have hs2 := (hW.cell (p := ⟨Bn, 0, none⟩) hb2).trans hBn
  by_cases hl : len = 0
  · subst hl
    exact chunk1_nil_in n l Bs Bn A cap c hc0 J Jx W hs1 h0
  · obtain ⟨ad, rfl⟩ := hA (by omega)
    exact chunk1_in n hn l Bs Bn ad len cap c hlen hcap hc0 hc1 J Jx (fun s W' hs => hJ s W' W'.drew none hs ⟨rfl, rfl, rfl, Nat.le_refl _, fun _ _ _ => rfl⟩ (fun r e => by cases e)) hY W hs1 hs2 h0
theorem chunk_calls (A : Option Addr) (len cap : Nat) (c : Int) (hc : 1 ≤ c) (w : World) :
    Calls Try.prog 28 #[.slice A len cap, .int .i64 c] w fun e w' => e = .returned (.func (.func 41) #[] #[.pointer (some ⟨w.heap.size, 0, none⟩), .pointer (some ⟨w.heap.size + 1, 0, none⟩)]) ∧ w' = (w.alloc (.cells #[.slice A len cap] 22)).alloc (.cells #[.int .i64 c] 3) := by
  go_enter Try.func28, Try.ntmps28
  have hz : ¬ (c < 1) := by omega
  go_wp2
  go_ret
  exact ⟨by simp, rfl⟩
theorem enters : ∀ args w, (callFunc 41 args).run Try.prog w = .ok (.enter 41 args) w := enters_of Try.func41 (by kernel_rfl) rfl
end Go.Proofs.Ytpkcjkfkohmcfaa.ChunkS
end

section
namespace Go.Proofs.Ytpkcjkfkohmcfaa.XN
open Go.RowKit Go.Proofs.YtpkcjkfkohmcfaaW.PrintWords Go.Proofs.YtpkcjkfkohmcfaaW.PrintLast Go.Proofs.YtpkcjkfkohmcfaaW.PrintMore
attribute [local go_sem] run_eql_slice_nil binOp_string_gtr' binOp_string_leq' binOp_string_geq' max2_int min2_int max_two min_two max_three min_three max_four min_four   -- for this text's walks alone
set_option linter.unusedVariables false
set_option linter.unusedSimpArgs false
attribute [local go_sem] Oper.semAt_some
def impl_PagesOf.page (l : List ByteArray) (c : Nat) (hd : ByteArray) (j : Nat) : List ByteArray := hd :: (l.drop (j * c)).take c
def impl_PagesOf.pages (l : List ByteArray) (c : Nat) (hd : ByteArray) : List (List ByteArray) := (List.range ((l.length + (c - 1)) / c)).map (impl_PagesOf.page l c hd)
def impl_PagesOf.f (k : Nat) (l0 : List ByteArray) (a1 : Int) (a2 : ByteArray) : Option (List (List ByteArray) × Int) :=
 (impl_ValidReport.f k l0).bind fun b => if b = true then ((impl_within.f a1 2 200).bind fun c => if c = true then ((impl_lineValid.f k a2).bind fun d => if d = true then (if l0.length ≤ 100000 ∧ 2 ≤ a1 ∧ a1 ≤ 200 then some (impl_PagesOf.pages l0 (a1 - 1).toNat a2, 0) else none) else some ([], 2)) else some ([], 2)) else some ([], 1)
def impl_PagesOf.T8 : Bool × List (List Nat × List Nat) := (true, [([], []), ([], []), ([1], [1]), ([], []), ([2, 3], [2, 3]), ([4], [4]), ([0, 5, 4], [0, 5]), ([6, 6, 0, 1, 2, 3, 4, 5, 6], [6])])
def impl_PagesOf.B8 : List Nat := [0, 0, 2, 0, 14, 30, 63, 127]
theorem impl_PagesOf.tab8 : rtab .any (opsOf Try.f8 8) = impl_PagesOf.T8 := by kernel_rfl
theorem impl_PagesOf.bits8 : waitsOk impl_PagesOf.T8.2 impl_PagesOf.B8 = true := by kernel_rfl
theorem impl_PagesOf.ends {len c : Nat} {ys : List Nat} (hc : 0 < c) (h : Ytpkcjkfkohmcfaa.ChunkS.Ends len c ys) : ys = List.range ((len + (c - 1)) / c) := by
 obtain ⟨q, rfl, h1, h2⟩ := h
 congr 1
 refine (Nat.div_eq_of_lt_le ?_ ?_).symm
 ·omega
 ·rw [Nat.succ_mul]; omega
def impl_PagesOf.Inv (w wb : World) (B8 : Nat) (l : List ByteArray) (c : Nat) (hd : ByteArray) (pre : List Nat) (W : World) : Prop :=
 (∃ v, Boxed W B8 24 v ∧ Kd.S (Kd.slice 9 Kd.string) 22 W wb.heap.size (fun _ => True) v (pre.map (impl_PagesOf.page l c hd))) ∧ Below w.heap.size w W ∧ KeepBut wb W B8 none
theorem impl_PagesOf.own {w wb : World} {B8 : Nat} {l : List ByteArray} {c : Nat} {hd : ByteArray} (hb : w.heap.size ≤ wb.heap.size) (h8 : B8 < wb.heap.size) : OwnFrom wb.heap.size (impl_PagesOf.Inv w wb B8 l c hd) := by
 rintro s X Y row ⟨⟨v, hv, hS⟩, hB, hK⟩ hg hrow
 refine ⟨⟨v, hv.kept hg (fun e => by have := (hrow B8 e.symm).1; omega), ?_⟩, hB.grown hg hB.size (fun j e => by have := (hrow j e).1; omega), ?_⟩
 ·refine Kd.S_mono (Kd.S_grown (Kd.S_bound hS) hg ?_) (fun _ h => trivial)
  rintro k ⟨_, _, _, q, _, cells, hcell⟩ e
  obtain ⟨_, o, ho, hn⟩ := hrow k e.symm
  rw [hcell] at ho
  injection ho with ho
  subst ho
  cases hn
 ·exact ⟨Nat.le_trans hK.1 hg.size, fun i hi hne hr => (hg.block i (Nat.lt_of_lt_of_le hi hK.1) (fun e => by have := (hrow i e.symm).1; omega)).trans (hK.2 i hi hne hr)⟩
theorem impl_PagesOf.boxes (w : World) (nd : Nat) (v5 v8 vs vn : Value) : ∃ wb, ((((w.alloc (.cells #[v5] 9)).drewN nd).alloc (.cells #[v8] 24)).alloc (.cells #[vs] 22)).alloc (.cells #[vn] 3) = wb ∧ wb.heap.size = w.heap.size + 4 ∧ Boxed wb w.heap.size 9 v5 ∧ Boxed wb (w.heap.size + 1) 24 v8 ∧ Boxed wb (w.heap.size + 1 + 1) 22 vs ∧ Boxed wb (w.heap.size + 1 + 1 + 1) 3 vn ∧ Below w.heap.size w wb := by
 refine ⟨_, rfl, by simp [World.drewN], ?_, ?_, ?_, ?_, ?_⟩
 ·refine Boxed.alloc (Boxed.alloc (Boxed.alloc ?_ _) _) _
  exact Boxed.new w 9 v5
 ·refine Boxed.alloc (Boxed.alloc ?_ _) _
  have := Boxed.new ((w.alloc (.cells #[v5] 9)).drewN nd) 24 v8
  rwa [show ((w.alloc (.cells #[v5] 9)).drewN nd).heap.size = w.heap.size + 1 by simp [World.drewN]] at this
 ·refine Boxed.alloc ?_ _
  have := Boxed.new (((w.alloc (.cells #[v5] 9)).drewN nd).alloc (.cells #[v8] 24)) 22 vs
  rwa [show (((w.alloc (.cells #[v5] 9)).drewN nd).alloc (.cells #[v8] 24)).heap.size = w.heap.size + 1 + 1 by simp [World.drewN]] at this
 ·have := Boxed.new ((((w.alloc (.cells #[v5] 9)).drewN nd).alloc (.cells #[v8] 24)).alloc (.cells #[vs] 22)) 3 vn
  rwa [show ((((w.alloc (.cells #[v5] 9)).drewN nd).alloc (.cells #[v8] 24)).alloc (.cells #[vs] 22)).heap.size = w.heap.size + 1 + 1 + 1 by simp [World.drewN]] at this
 ·exact below_alloc (below_alloc (below_alloc (pw_below_drewN (below_alloc (Below.refl _ _) _) _) _) _) _
theorem impl_PagesOf.cut {w W : World} {A0 : Option Addr} {l : List ByteArray} (h : Kd.C Kd.string w A0 l.length l) (hb : Below w.heap.size w W) (c j : Nat) :
  ReadsRow (fun (x : ByteArray) (cs : List Value) => cs = [.string x]) 1 W (some ((A0.getD ⟨0, 0, none⟩).add (Ytpkcjkfkohmcfaa.ChunkS.off l.length c j))) (Ytpkcjkfkohmcfaa.ChunkS.cnt l.length c j) ((l.drop (j * c)).take c) := by
 obtain ⟨h1, h2, h3⟩ := Kd.C_below h hb
 have e1 : (Ytpkcjkfkohmcfaa.ChunkS.off l.length c j) = min (j * c) l.length := rfl
 have e2 : (Ytpkcjkfkohmcfaa.ChunkS.cnt l.length c j) = min c (l.length - min (j * c) l.length) := rfl
 refine ⟨by simp only [List.length_take, List.length_drop, e2]; omega, by rw [e2]; omega, fun hp => ⟨_, rfl, fun i p hi => ?_⟩⟩
 rw [e2] at hp
 obtain ⟨ad, rfl, hc⟩ := h3 (by omega)
 rw [List.getElem?_take] at hi
 split at hi
 ·rw [List.getElem?_drop] at hi
  obtain ⟨cs, hl, hK, hcell⟩ := hc _ p hi
  refine ⟨cs, hl, hK, fun q u hq => ?_⟩
  have := hcell q u hq
  rw [Option.getD_some, add_add, e1, show min (j * c) l.length + (i * 1 + q) = (j * c + i) * Kd.string.sz + q by show _ = (j * c + i) * 1 + q; omega]
  exact this
 ·cases hi
set_option maxHeartbeats 8000000 in
set_option maxRecDepth 100000 in
theorem impl_PagesOf.calls (k : Nat) (A0 : Option Addr) (c0 : Nat) (l0 : List ByteArray) (a1 : Int) (a2 : ByteArray) (r1 : List (List ByteArray)) (r2 : Int) (w : World) (hr0 : Kd.C Kd.string w A0 l0.length l0) (hc0 : l0.length ≤ c0) (h : impl_PagesOf.f k l0 a1 a2 = some (r1, r2)) :
  Calls Try.prog 8 #[.slice A0 l0.length c0, .int .i64 a1, .string a2] w fun e w' => ∃ v0_ : Value, e = .returned (.tuple #[v0_, .int .i64 r2]) ∧ Kd.S (Kd.slice 9 Kd.string) 22 w' w.heap.size (fun _ => True) v0_ r1 ∧ Below w.heap.size w w' := by
 unfold impl_PagesOf.f at h
 obtain ⟨b, hb, h⟩ := Option.bind_eq_some_iff.mp h
 have HV := Aside0.mk hb
 have HR := Aside0.mk hr0
 clear hb hr0
 cases b with
 | false =>
  simp only [Bool.false_eq_true, if_false, Option.some.injEq, Prod.mk.injEq] at h
  obtain ⟨rfl, rfl⟩ := h
  go_enter Try.func8, Try.ntmps8
  go_wp2_with (go_at_call 25; go_loud ((with_reducible refine (impl_ValidReport.calls k A0 c0 l0 false _ ?_ hc0 HV.out).mono ?_); (case refine_1 => exact Kd.C_alloc HR.out _); rintro e w2 ⟨rfl, ⟨nd, rfl⟩⟩))
  go_ret2
  exact ⟨_, rfl, Kd.S_nil _ _ _ _ _, by repeat (first | exact Below.refl _ _ | apply below_alloc | apply pw_below_drewN | apply below_drew1)⟩
 | true =>
  simp only [if_true] at h
  obtain ⟨c, hc, h⟩ := Option.bind_eq_some_iff.mp h
  have HW := Aside0.mk hc
  clear hc
  cases c with
  | false =>
   simp only [Bool.false_eq_true, if_false, Option.some.injEq, Prod.mk.injEq] at h
   obtain ⟨rfl, rfl⟩ := h
   go_enter Try.func8, Try.ntmps8
   go_wp2_with (first
    | (go_at_call 25; go_loud ((with_reducible refine (impl_ValidReport.calls k A0 c0 l0 true _ ?_ hc0 HV.out).mono ?_); (case refine_1 => exact Kd.C_alloc HR.out _); rintro e w2 ⟨rfl, ⟨nd, rfl⟩⟩))
    | (go_at_call 26; go_loud ((with_reducible refine (impl_within.calls a1 2 200 false _ HW.out).mono ?_); rintro e w2 ⟨rfl, ⟨nd2, rfl⟩⟩)))
   go_ret2
   exact ⟨_, rfl, Kd.S_nil _ _ _ _ _, by repeat (first | exact Below.refl _ _ | apply below_alloc | apply pw_below_drewN | apply below_drew1)⟩
  | true =>
   simp only [if_true] at h
   obtain ⟨d, hd, h⟩ := Option.bind_eq_some_iff.mp h
   have HD := Aside0.mk hd
   clear hd
   cases d with
   | false =>
    simp only [Bool.false_eq_true, if_false, Option.some.injEq, Prod.mk.injEq] at h
    obtain ⟨rfl, rfl⟩ := h
    go_enter Try.func8, Try.ntmps8
    go_wp2_with (first
     | (go_at_call 25; go_loud ((with_reducible refine (impl_ValidReport.calls k A0 c0 l0 true _ ?_ hc0 HV.out).mono ?_); (case refine_1 => exact Kd.C_alloc HR.out _); rintro e w2 ⟨rfl, ⟨nd, rfl⟩⟩))
     | (go_at_call 26; go_loud ((with_reducible refine (impl_within.calls a1 2 200 true _ HW.out).mono ?_); rintro e w2 ⟨rfl, ⟨nd2, rfl⟩⟩))
     | (go_at_call 27; go_loud ((with_reducible refine (impl_lineValid.calls k a2 false _ HD.out).mono ?_); rintro e w2 ⟨rfl, ⟨nd3, rfl⟩⟩)))
    go_ret2
    exact ⟨_, rfl, Kd.S_nil _ _ _ _ _, by repeat (first | exact Below.refl _ _ | apply below_alloc | apply pw_below_drewN | apply below_drew1)⟩
   | true =>
    simp only [if_true] at h
    by_cases hl : l0.length ≤ 100000 ∧ 2 ≤ a1 ∧ a1 ≤ 200
    ·rw [if_pos hl] at h
     simp only [Option.some.injEq, Prod.mk.injEq] at h
     obtain ⟨rfl, rfl⟩ := h
     obtain ⟨hl1, hl2, hl3⟩ := hl
     refine (callsIn_wide (n := 6)).1 (callsIn_of_wp_marks Try.func8 rfl trivial ?_ rfl)
     simp only [Try.ntmps8, List.size_toArray, List.length_cons, List.length_nil, Nat.reduceAdd, Nat.reduceSub, Array.replicate_succ, Array.replicate_zero, List.push_toArray, List.append_toArray, List.nil_append, List.cons_append]
     obtain ⟨c, rfl⟩ : ∃ c : Nat, a1 = (c : Int) + 1 := ⟨(a1 - 1).toNat, by omega⟩
     have w1 : wrap64 ((c : Int) + 1 - 1) = (c : Int) := by unfold wrap64; omega
     have g1 : Fence.wide.fn 25 := trivial
     have g2 : Fence.wide.fn 26 := trivial
     have g3 : Fence.wide.fn 27 := trivial
     have g4 : Fence.wide.fn 28 := trivial
     gi_wp2_with (first
      | (gi_at_call 25; go_loud (refine ((callsIn_wide).2 (impl_ValidReport.calls k A0 c0 l0 true _ (Kd.C_alloc HR.out _) hc0 HV.out)).mono ?_; rintro e w2 ⟨rfl, ⟨nd, rfl⟩⟩))
      | (gi_at_call 26; go_loud (refine ((callsIn_wide).2 (impl_within.calls ((c : Int) + 1) 2 200 true _ HW.out)).mono ?_; rintro e w2 ⟨rfl, ⟨nd2, rfl⟩⟩))
      | (gi_at_call 27; go_loud (refine ((callsIn_wide).2 (impl_lineValid.calls k a2 true _ HD.out)).mono ?_; rintro e w2 ⟨rfl, ⟨nd3, rfl⟩⟩))
      | (gi_at_call 28; go_loud (refine ((callsIn_wide).2 (Ytpkcjkfkohmcfaa.ChunkS.chunk_calls A0 l0.length c0 (c : Int) (by omega) _)).mono ?_; rintro e w2 ⟨rfl, rfl⟩)))
     generalize hnn : nd + nd2 + nd3 = nn
     obtain ⟨wb, hwb, hsz, h5, h8, hbs, hbn, hbB⟩ := impl_PagesOf.boxes w nn (.string a2) (.slice none 0 0) (.slice A0 l0.length c0) (.int .i64 (c : Int))
     rw [hwb]
     refine wpIn_rangeFunc_ownG rfl (by omega) (gf := 41) (lb := #[.pointer (some ⟨w.heap.size + 1 + 1, 0, none⟩), .pointer (some ⟨w.heap.size + 1 + 1 + 1, 0, none⟩)]) rfl trivial Ytpkcjkfkohmcfaa.ChunkS.enters
      (Ytpkcjkfkohmcfaa.ChunkS.stops 5 (by omega) (w.heap.size + 1 + 1) (w.heap.size + 1 + 1 + 1) A0 l0.length c0 c (by omega) hc0 ?hA (by omega) (by omega) wb (by omega) (by omega) hbs.cell hbn.cell)
      (fun h k => Ytpkcjkfkohmcfaa.ChunkS.Kp.tr h k) (Ytpkcjkfkohmcfaa.ChunkS.Kp.put (by omega) (by omega)) (Below.refl _ _) (fun _ => rfl)
      (impl_PagesOf.Inv w wb (w.heap.size + 1) l0 c a2) (fun _ _ _ => False) (impl_PagesOf.own (by omega) (by omega)) (fun _ _ _ _ _ hs _ _ => hs)
      ⟨⟨_, h8, Kd.S_nil _ _ _ _ _⟩, hbB, KeepBut.refl _ _ _⟩
      (fun x => { tmps := #[.slice A0 l0.length c0, .int .i64 ((c : Int) + 1), .string a2, undef, undef, .pointer (some ⟨w.heap.size, 0, none⟩), .slice none 0 0, .int .i64 0, .pointer (some ⟨w.heap.size + 1, 0, none⟩), .slice (some ((A0.getD ⟨0, 0, none⟩).add (Ytpkcjkfkohmcfaa.ChunkS.off l0.length c x))) (Ytpkcjkfkohmcfaa.ChunkS.cnt l0.length c x) (Ytpkcjkfkohmcfaa.ChunkS.cnt l0.length c x), .bool false, .slice A0 l0.length c0, .bool true, .bool false, .bool false, .int .i64 ((c : Int) + 1), .bool true, .bool false, .bool false, .string a2, .bool true, .bool false, .bool false, .slice A0 l0.length c0, .int .i64 ((c : Int) + 1), .int .i64 (c : Int), .func (.func 41) #[] #[.pointer (some ⟨w.heap.size + 1 + 1, 0, none⟩), .pointer (some ⟨w.heap.size + 1 + 1 + 1, 0, none⟩)], .slice (some ((A0.getD ⟨0, 0, none⟩).add (Ytpkcjkfkohmcfaa.ChunkS.off l0.length c x))) (Ytpkcjkfkohmcfaa.ChunkS.cnt l0.length c x) (Ytpkcjkfkohmcfaa.ChunkS.cnt l0.length c x), undef, undef, undef, undef, undef, undef, undef, undef], defers := [] }) ?assign ?body ?done ?stop
     case hA =>
      intro hp
      obtain ⟨_, _, h3⟩ := HR.out
      obtain ⟨ad, e, _⟩ := h3 hp
      exact ⟨ad, e⟩
     case assign =>
      intro l x W K hK
      simp only [Ytpkcjkfkohmcfaa.ChunkS.enc]
      gi_wp2
      exact hK
     case body =>
      rintro l pre x W ⟨⟨v, hv, hS⟩, hB, hK⟩ hlt
      gi_wp2
      obtain ⟨Av, cv, rfl⟩ := Kd.S_slice hS
      have h5' : Boxed W w.heap.size 9 (.string a2) := (hK.2 w.heap.size (by omega) (by omega) (by simp)).trans h5
      have hRd := impl_PagesOf.cut HR.out hB c x
      obtain ⟨ys, hys⟩ : ∃ ys, ys = (l0.drop (x * c)).take c := ⟨_, rfl⟩
      rw [← hys] at hRd
      obtain ⟨m, hm⟩ : ∃ m, m = Ytpkcjkfkohmcfaa.ChunkS.cnt l0.length c x := ⟨_, rfl⟩
      rw [← hm] at hRd ⊢
      have hml : m ≤ 100000 := by rw [hm]; unfold Ytpkcjkfkohmcfaa.ChunkS.cnt; omega
      obtain ⟨Ac, hAc⟩ : ∃ Ac, Ac = (A0.getD ⟨0, 0, none⟩).add (Ytpkcjkfkohmcfaa.ChunkS.off l0.length c x) := ⟨_, rfl⟩
      rw [← hAc] at hRd ⊢
      obtain ⟨n0, hn0⟩ : ∃ n0, n0 = (pre.map (impl_PagesOf.page l0 c a2)).length := ⟨_, rfl⟩
      have hnl : n0 ≤ 100000 := by rw [hn0, List.length_map]; omega
      rw [← hn0] at hv hS
      have HRD := Aside0.mk hRd
      have HS := Aside0.mk hS
      have HB := Aside0.mk hB
      have HKB := Aside0.mk hK
      have HV8 := Aside0.mk hv
      have HYS := Aside0.mk hys
      have HM := Aside0.mk hm
      have HN0 := Aside0.mk hn0
      have HAc := Aside0.mk hAc
      have hV := hv.cell
      have hF := hv.frozen
      have h5c := h5'.cell
      clear hRd hS hB hK hv hys hm hn0 hAc
      refine Ytpkcjkfkohmcfaa.RoundW.start_in (m := 8) (S := fun w' => w'.cell? ⟨w.heap.size + 1, 0, none⟩ = some (.slice Av n0 cv) ∧ w'.cell? ⟨w.heap.size, 0, none⟩ = some (.string a2)) (ds := [7]) #[false, false, false, false, false, false, false, false] (by rintro ⟨_, _, h⟩; exact h) (by kernel_rfl) (by kernel_rfl) rfl rfl ⟨hV, h5c⟩ (fun hHeld => ?_)
      refine with_tabW impl_PagesOf.tab8 impl_PagesOf.bits8 (fun HT_ HW_ => ?_)
      have HRD1 := HRD
      obtain ⟨wd, hwd⟩ : ∃ wd, W.drew = wd := ⟨_, rfl⟩
      have HKW := Aside0.mk (show KeepsOthers W wd by rw [← hwd]; exact KeepsOthers.drew W)
      have HWD := Aside0.mk (show wd.heap = W.heap by rw [← hwd]; rfl)
      have HSd : Aside0 (Kd.S (Kd.slice 9 Kd.string) 22 wd wb.heap.size (fun _ => True) (.slice Av n0 cv) (pre.map (impl_PagesOf.page l0 c a2))) := ⟨by rw [← hwd]; exact Kd.S_drew HS.out⟩
      have HBd : Aside0 (Below w.heap.size w wd) := ⟨by rw [← hwd]; exact below_drew1 HB.out⟩
      have HKd : Aside0 (KeepBut wb wd (w.heap.size + 1) none) := ⟨by rw [← hwd]; exact HKB.out⟩
      have hbs : wb.heap.size ≤ wd.heap.size := HKd.out.1
      have HRDd : Aside0 (ReadsRow (fun (x : ByteArray) (cs : List Value) => cs = [.string x]) 1 wd (some Ac) m ys) := ⟨by rw [← hwd]; exact HRD.out⟩
      rw [hwd] at hHeld ⊢
      refine take_ (i := 0) (N := some 28) (v := ?_) (a' := ?_) #[true, false, false, false, false, false, false, false] rfl rfl (take_ofW HT_.out HW_.out (by kernel_rfl)) (fun _ _ _ h => h) (Or.inl ⟨by rfl, ?_⟩) hHeld ?_ ?_
      rotate_left
      ·rintro w' ⟨s0, s1⟩
       go_simp
       with_reducible rfl
      rotate_left
      ·simp only [Act.put, List.setIfInBounds_toArray, List.set_cons_zero, List.set_cons_succ, i64_w, i32_w]
       rfl
      refine take_ (i := 1) (N := some 29) (v := ?_) (a' := ?_) #[true, true, false, false, false, false, false, false] rfl rfl (take_ofW HT_.out HW_.out (by kernel_rfl)) (fun _ _ _ h => h) (Or.inl ⟨by rfl, ?_⟩) hHeld ?_ ?_
      rotate_left
      ·rintro w' ⟨s0, s1⟩
       go_simp
       with_reducible rfl
      rotate_left
      ·simp only [Act.put, List.setIfInBounds_toArray, List.set_cons_zero, List.set_cons_succ, i64_w, i32_w]
       rfl
      refine puZ 3 (some 31) #[true, true, false, true, false, false, false, false] rfl rfl HT_.out ?_
      refine one_ (i := 2) (N := some 30) #[true, true, true, true, false, false, false, false] rfl rfl (one_of HT_.out (by kernel_rfl)) (by decide) (fun K hK => ?_)
      refine Kd.R_lit_step Kd.string (w0 := wd) wb.heap.size 9 (by rfl) (N := 30) rfl (xs := ([a2] : List ByteArray)) (inner := [.string a2]) (ok := fun k_ => wd.heap.size ≤ k_) (okp := fun _ => False) ?hr (Reps.one (show Kd.M Kd.string _ _ _ a2 [.string a2] from rfl) (Reps.none _ _)) (fun _ hk => hk.elim) (Nat.le_refl _) (Below.refl _ _) hbs (by simp) ?_
      (case hr => first | (go_simp; done) | (go_simp; rfl))
      intro v1 w1 ho1 hb1 hg1 hnew1
      obtain ⟨A1, c1, rfl⟩ := Kd.R_slice ho1
      have HO1 := Aside0.mk ho1
      have HB1 := Aside0.mk hb1
      have HG1 := Aside0.mk hg1
      have HS1 : Aside0 (Kd.S (Kd.slice 9 Kd.string) 22 w1 wb.heap.size (fun k_ => k_ < wd.heap.size) (.slice Av n0 cv) (pre.map (impl_PagesOf.page l0 c a2))) := ⟨Kd.S_grown (Kd.S_mono (Kd.S_bound HSd.out) (fun _ h => h.2.2.1)) hg1 (fun _ _ => by simp)⟩
      have HR1 : Aside0 (ReadsRow (fun (x : ByteArray) (cs : List Value) => cs = [.string x]) 1 w1 (some Ac) m ys) := ⟨ReadsRow.imp_ HRDd.out (Below.grown (Below.refl _ _) hg1 (Nat.le_refl _) (fun _ h => by cases h)) (fun _ _ h => h)⟩
      clear ho1 hb1 hg1 hnew1
      refine hK.out _ _ ⟨cell_grown HG1.out hHeld.1 (by simp), cell_grown HG1.out hHeld.2 (by simp)⟩ (fun hHeld => ?_)
      clear hK K
      refine norm_ (a' := ?_) ?_ ?_
      rotate_left
      ·show Act.put _ (some 30) _ = _
       simp only [Act.put, List.setIfInBounds_toArray, List.set_cons_zero, List.set_cons_succ, i64_w, i32_w]
       rfl
      refine one_ (i := 4) (N := some 32) #[true, true, true, true, true, false, false, false] rfl rfl (one_of HT_.out (by kernel_rfl)) (by decide) (fun K hK => ?_)
      refine Kd.R_append_rows_step Kd.string (w0 := w1) wb.heap.size (by rfl) (.tmp 30) (.tmp 31) 22 9 (.string ⟨#[]⟩) 16 rfl Try.underlying22 Ytpkcjkfkohmcfaa.ChunkS.infoS rfl (by decide) (by omega) (.slice A1 ([a2] : List ByteArray).length c1) [a2] ys (some Ac) m m (fun k_ => wd.heap.size ≤ k_) (fun _ => False) rfl rfl HO1.out HR1.out (fun _ _ h => h) (fun _ hk => hk.elim) (fun k_ hk => Nat.le_trans HG1.out.size hk) (Below.refl _ _) (Nat.le_trans hbs HG1.out.size) (by simp only [List.length_cons, List.length_nil]; omega) ?_
      intro v2 w2 ho2 hb2 hg2 hat2
      obtain ⟨A2, c2, rfl⟩ := Kd.R_slice ho2
      have hv1 : ∀ k_, (Value.slice A1 ([a2] : List ByteArray).length c1).ownBlock = some k_ → wd.heap.size ≤ k_ := fun k_ hk => HO1.out.1 k_ hk
      have HO2 := Aside0.mk ho2
      have HG2 := Aside0.mk hg2
      have HS2 : Aside0 (Kd.S (Kd.slice 9 Kd.string) 22 w2 wb.heap.size (fun k_ => k_ < wd.heap.size) (.slice Av n0 cv) (pre.map (impl_PagesOf.page l0 c a2))) := ⟨Kd.S_grown HS1.out hg2 (fun k_ hk e => by have := hv1 k_ e.symm; omega)⟩
      have HV1 := Aside0.mk hv1
      clear ho2 hb2 hg2 hat2 hv1
      have hlt8 : w.heap.size + 1 < wd.heap.size := by omega
      refine hK.out _ _ ⟨cell_grown HG2.out hHeld.1 (fun e => by have := HV1.out _ e.symm; (try simp only at this); omega), cell_grown HG2.out hHeld.2 (fun e => by have := HV1.out _ e.symm; (try simp only at this); omega)⟩ (fun hHeld => ?_)
      clear hK K
      refine norm_ (a' := ?_) ?_ ?_
      rotate_left
      ·show Act.put _ (some 32) _ = _
       simp only [Act.put, List.setIfInBounds_toArray, List.set_cons_zero, List.set_cons_succ, i64_w, i32_w]
       rfl
      refine one_ (i := 5) (N := some 33) #[true, true, true, true, true, true, false, false] rfl rfl (one_of HT_.out (by kernel_rfl)) (by decide) (fun K hK => ?_)
      refine value_ (w1 := ?_) (v := ?_) (by rfl) rfl ?_ ?_
      rotate_left 2
      ·go_simp
       constructor
       ·rfl
       ·rfl
      refine hK.out _ _ ⟨(World.cell?_alloc_lt _ _ _ (World.block_lt_of_cell? _ _ (hHeld.1))).trans (hHeld.1), (World.cell?_alloc_lt _ _ _ (World.block_lt_of_cell? _ _ (hHeld.2))).trans (hHeld.2)⟩ (fun hHeld => ?_)
      clear hK K
      refine norm_ (a' := ?_) ?_ ?_
      rotate_left
      ·show Act.put _ (some 33) _ = _
       simp only [Act.put, List.setIfInBounds_toArray, List.set_cons_zero, List.set_cons_succ, i64_w, i32_w]
       rfl
      refine one_ (i := 6) (N := some 34) #[true, true, true, true, true, true, true, false] rfl rfl (one_of HT_.out (by kernel_rfl)) (by decide) (fun K hK => ?_)
      refine Kd.S_append_step (Kd.slice 9 Kd.string) (w0 := w2) wb.heap.size (by rfl) (.tmp 28) (.tmp 33) 24 22 (.slice none 0 0) 24 rfl Try.underlying24 info22 rfl (by decide) (by omega) (.slice Av n0 cv) (pre.map (impl_PagesOf.page l0 c a2)) ([a2] ++ ys) [.slice A2 ([a2] ++ ys).length c2] (fun _ => True) (fun k_ => wd.heap.size ≤ k_) rfl rfl (Kd.M_row HO2.out) ?hq (fun _ _ => trivial) (Kd.S_mono HS2.out (fun k_ hk => ⟨trivial, by omega⟩)) (Below.refl _ _) (Nat.le_trans hbs (Nat.le_trans HG1.out.size HG2.out.size)) (by rw [← HN0.out]; omega) ?_
      (case hq => exact fun k_ hk => ⟨trivial, fun e => by have := Kd.S_lt HSd.out k_ e.symm; omega⟩)
      intro v3 w3 ho3 hb3 hg3 hat3
      obtain ⟨A3, c3, rfl⟩ := Kd.S_slice ho3
      have hne3 : some (w.heap.size + 1) ≠ (Value.slice Av n0 cv).ownBlock := HV8.out.not_row (by decide) (Kd.R_own (Kd.S_R HS.out)).choose_spec
      have HO3 := Aside0.mk ho3
      have HG3 := Aside0.mk hg3
      have hc3 : w3.cell? ⟨w.heap.size + 1, 0, none⟩ = some (.slice Av n0 cv) := cell_grown hg3 (cell_unalloc hHeld.1 (by show w.heap.size + 1 < _; have := HG1.out.size; have := HG2.out.size; omega)) hne3
      have hf3 : w3.frozen? ⟨w.heap.size + 1, 0, none⟩ = false := by
       have e3 := hg3.block (w.heap.size + 1) (by have := HG1.out.size; have := HG2.out.size; omega) hne3
       have e2 := HG2.out.block (w.heap.size + 1) (by have := HG1.out.size; omega) (fun e => by have := HV1.out _ e.symm; omega)
       have e1 := HG1.out.block (w.heap.size + 1) hlt8 (by simp)
       exact (World.frozen?_of_block (e3.trans (e2.trans e1))).trans (by rw [← hwd]; exact hF)
      clear ho3 hb3 hg3 hat3
      refine hK.out _ _ ⟨hc3, cell_grown HG3.out (cell_unalloc hHeld.2 (by show w.heap.size < _; have := HG1.out.size; have := HG2.out.size; omega)) ?hz⟩ (fun hHeld => ?_)
      (case hz => exact fun e => by have := Kd.S_base HSd.out _ e.symm; (try simp only at this); omega)
      clear hK K
      refine norm_ (a' := ?_) ?_ ?_
      rotate_left
      ·show Act.put _ (some 34) _ = _
       simp only [Act.put, List.setIfInBounds_toArray, List.set_cons_zero, List.set_cons_succ, i64_w, i32_w]
       rfl
      refine last_ (i := 7) (N := none) #[true, true, true, true, true, true, true, true] rfl rfl (one_of HT_.out (by kernel_rfl)) (by decide) (fun K hK => ?_)
      refine skip_ (w1 := ?_) (by rfl) rfl ?_ ?_
      rotate_left
      ·go_simp
       rfl
      refine hK.out _ _ ?_
      clear hK K
      refine done_ (done_of HT_.out (by kernel_rfl)) ?_
      have k1 : KeepsOthers wd w1 := KeepsOthers.of_grownBy HG1.out (fun j o e => by cases e)
      have k2 : KeepsOthers w1 w2 := KeepsOthers.of_grownBy HG2.out (fun j o e hj => by obtain ⟨cells, hc⟩ := Kd.R_typed HO1.out j e; rw [hc] at hj; cases hj; rfl)
      have k3 : KeepsOthers w2 w3 := KeepsOthers.of_grownBy HG3.out (fun j o e hj => by obtain ⟨cells, hc⟩ := Kd.S_typed HS2.out j e; rw [hc] at hj; cases hj; rfl)
      have hst : ∀ i, i < wb.heap.size → w3.heap[i]? = W.heap[i]? := by
       intro i hi
       have s1 := HG1.out.size
       have s2 := HG2.out.size
       have e3 := HG3.out.block i (by omega) (fun e => by have := Kd.S_base HSd.out _ e.symm; omega)
       have e2 := HG2.out.block i (by omega) (fun e => by have := HV1.out _ e.symm; omega)
       have e1 := HG1.out.block i (by omega) (by simp)
       rw [e3, e2, e1, HWD.out]
      have hsz3 : W.heap.size ≤ w3.heap.size := by have s1 := HG1.out.size; have s2 := HG2.out.size; have s3 := HG3.out.size; rw [HWD.out] at s1; omega
      have hst4 : ∀ (u : Value) (i : Nat), i < wb.heap.size → i ≠ w.heap.size + 1 → (w3.setCell ⟨w.heap.size + 1, 0, none⟩ u).heap[i]? = W.heap[i]? := fun u i hi hne => (Below.heap_setCell w3 ⟨w.heap.size + 1, 0, none⟩ u i hne).trans (hst i hi)
      have elen : (pre.map (impl_PagesOf.page l0 c a2) ++ [[a2] ++ ys]).length = pre.length + 1 := by simp
      have HO4 : Aside0 (Kd.S (Kd.slice 9 Kd.string) 22 w3 wb.heap.size (fun k_ => k_ ≠ w.heap.size + 1) (.slice A3 (pre.length + 1) c3) ((pre ++ [x]).map (impl_PagesOf.page l0 c a2))) := by
       refine ⟨?_⟩
       have h3 := Kd.S_mono (Kd.S_bound HO3.out) (ok' := fun k_ => k_ ≠ w.heap.size + 1) (fun k_ h => by have := h.2.1; omega)
       rw [elen] at h3
       rw [List.map_append, List.map_cons, List.map_nil, show impl_PagesOf.page l0 c a2 x = [a2] ++ ys from by rw [HYS.out]; rfl]
       exact h3
      refine ⟨((HKW.out.trans k1).trans (k2.trans (k3.trans (KeepsOthers.setCell w3 _ _)))).from _, ⟨World.cell?_of_block (hst4 _ _ (by show w.heap.size + 1 + 1 < _; omega) (by show w.heap.size + 1 + 1 ≠ _; omega)), World.cell?_of_block (hst4 _ _ (by show w.heap.size + 1 + 1 + 1 < _; omega) (by show w.heap.size + 1 + 1 + 1 ≠ _; omega))⟩, ⟨⟨_, Boxed.set _ ((hst _ (by omega)).trans HV8.out), Kd.S_mono (Kd.S_far (p := ⟨w.heap.size + 1, 0, none⟩) HO4.out (fun _ h => h) _) (fun _ _ => trivial)⟩, ?_, ?_⟩⟩
      ·have b1 := HBd.out.grown HG1.out HBd.out.size (fun _ h => by cases h)
       have b2 := b1.grown HG2.out b1.size (fun j e => by have := HV1.out _ e; omega)
       have b3 := b2.grown HG3.out b2.size (fun j e => by have := Kd.S_base HSd.out _ e; omega)
       exact b3.setCell (p := ⟨w.heap.size + 1, 0, none⟩) (by show w.heap.size ≤ w.heap.size + 1; omega) _
      ·refine ⟨?_, fun i hi hne hr => (hst4 _ i hi hne).trans (HKB.out.2 i hi hne hr)⟩
       have := HKB.out.1
       have := (KeepsOthers.setCell w3 ⟨w.heap.size + 1, 0, none⟩ (.slice A3 (pre.length + 1) c3)).size
       omega
     case done =>
      rintro D ys W hD hE ⟨⟨v, hv, hS⟩, hB, hK⟩ hKD
      have hc := hv.cell
      have HS := Aside0.mk hS
      have HB := Aside0.mk hB
      have HE := Aside0.mk (impl_PagesOf.ends (by omega) hE)
      clear hS hB hK hE hv
      gi_wp2
      refine ⟨by simp, .inl ⟨_, _, rfl, run_takeDeferred hKD, ?_⟩⟩
      have HB2 : Below w.heap.size w (W.putObj D (.deferred none)) := HB.out.grown (grownBy_putObj' W D _) HB.out.size (fun j e => by cases e; omega)
      refine ⟨_, results_tmp2 rfl _ _ _, v, rfl, ?_, HB2⟩
      rw [HE.out] at HS
      have hs1 := Kd.S_lower HS.out (show w.heap.size ≤ wb.heap.size by omega)
      rw [show ((c : Int) + 1 - 1).toNat = c by omega]
      refine Kd.S_mono (Kd.S_grown (Kd.S_bound hs1) (grownBy_putObj' W D _) ?_) (fun _ _ => trivial)
      rintro k_ ⟨_, _, _, q, _, cells, hcell⟩ e
      cases e
      rw [hcell] at hKD
      cases hKD
     case stop =>
      rintro D c pre W _ _ h _
      exact h.elim
    ·rw [if_neg hl] at h
     exact absurd h (by simp)
end Go.Proofs.Ytpkcjkfkohmcfaa.XN
end

section
namespace Go.Proofs.Ytpkcjkfkohmcfaa.XN
open Go.RowKit Go.Proofs.YtpkcjkfkohmcfaaW.PrintWords Go.Proofs.YtpkcjkfkohmcfaaW.PrintLast Go.Proofs.YtpkcjkfkohmcfaaW.PrintMore
attribute [local go_sem] run_eql_slice_nil binOp_string_gtr' binOp_string_leq' binOp_string_geq' max2_int min2_int max_two min_two max_three min_three max_four min_four   -- for this text's walks alone
set_option linter.unusedVariables false
set_option linter.unusedSimpArgs false
def laws_b10Long.f (l0 : List Int) : Option (Bool) := some (decide ((l0.length : Int) > 1048576))
set_option maxHeartbeats 8000000 in
set_option maxRecDepth 100000 in
theorem laws_b10Long.calls (A0 : Option Addr) (c0 : Nat) (l0 : List Int) (r : Bool) (w : World) (hr0 : Kd.C (Kd.int .u8) w A0 l0.length l0) (hc0 : l0.length ≤ c0) (h : laws_b10Long.f l0 = some r) :
  Calls Try.prog 14 #[.slice A0 l0.length c0] w fun e w' => e = .returned (.bool r) ∧ Drawn0 w w' := by
 have HR0 := Aside0.mk hr0
 have HC0 := Aside0.mk hc0
 clear hr0 hc0
 have H : (some (decide ((l0.length : Int) > 1048576))) = some r := h
 clear h
 obtain rfl := Option.some.inj H
 go_enter Try.func14, Try.ntmps14
 go_wp2
 go_ret
 exact ⟨sZ, dZ⟩
def IsS67 (w0 W : World) (g : Nat) (f0 : List Int) (f1 : Int) (f2 : Int) : Prop := ∃ A0 c0, W.heap[g]? = some (.cells #[.slice A0 f0.length c0, .int .i64 f1, .int .u64 f2] 67 (0, 0)) ∧ w0.heap.size ≤ g ∧ Kd.C (Kd.int .u8) w0 A0 f0.length f0
theorem IsS67.grown {w0 W : World} {g : Nat} {f0 : List Int} {f1 : Int} {f2 : Int} {W1 : World} {row : Option Nat} (h : IsS67 w0 W g f0 f1 f2) (hw : W.grownBy W1 row) (hne : some g ≠ row) : IsS67 w0 W1 g f0 f1 f2 := by
 obtain ⟨A0, c0, hb, hg, hr0⟩ := h
 exact ⟨A0, c0, blk_grown hb hw hne, hg, hr0⟩
theorem IsS67.kept {w0 W : World} {g : Nat} {f0 : List Int} {f1 : Int} {f2 : Int} {W1 : World} {S : Nat → Prop} (h : IsS67 w0 W g f0 f1 f2) (hk : Kept W W1 S) (hne : ¬ S g) : IsS67 w0 W1 g f0 f1 f2 := by
 obtain ⟨A0, c0, hb, hg, hr0⟩ := h
 exact ⟨A0, c0, blk_kept hb hk hne, hg, hr0⟩
theorem IsS67.below {w0 W : World} {g : Nat} {f0 : List Int} {f1 : Int} {f2 : Int} {W1 : World} (h : IsS67 w0 W g f0 f1 f2) (hw : Below W.heap.size W W1) : IsS67 w0 W1 g f0 f1 f2 := h.grown (grown_of_below hw none) (by simp)
theorem IsS67.alloc {w0 W : World} {g : Nat} {f0 : List Int} {f1 : Int} {f2 : Int} (h : IsS67 w0 W g f0 f1 f2) (o : Obj) : IsS67 w0 (W.alloc o) g f0 f1 f2 := h.below (below_alloc (Below.refl _ _) o)
theorem IsS67.drewN {w0 W : World} {g : Nat} {f0 : List Int} {f1 : Int} {f2 : Int} (h : IsS67 w0 W g f0 f1 f2) (m : Nat) : IsS67 w0 (W.drewN m) g f0 f1 f2 := h
theorem IsS67.drew {w0 W : World} {g : Nat} {f0 : List Int} {f1 : Int} {f2 : Int} (h : IsS67 w0 W g f0 f1 f2) : IsS67 w0 W.drew g f0 f1 f2 := h
theorem IsS67.at_ {w0 W : World} {g : Nat} {f0 : List Int} {f1 : Int} {f2 : Int} {w' : World} {m : Nat} (hq : W.drewN m = w') (h : IsS67 w0 W g f0 f1 f2) : IsS67 w0 w' g f0 f1 f2 := by subst hq; exact IsS67.drewN h m
theorem IsS67.apart {w0 W : World} {g : Nat} {f0 : List Int} {f1 : Int} {f2 : Int} {α : Type} {d : Kd α} {e : Nat} {base : Nat} {ok : Nat → Prop} {v : Value} {xs : List α} (h : IsS67 w0 W g f0 f1 f2) (ho : d.R e W base ok v xs) (ht : ∀ q, q ∈ e :: d.E → q ≠ 67) : d.R e W base (fun k => ok k ∧ k ≠ g) v xs := by
 obtain ⟨A0, c0, hb, hg, hr0⟩ := h
 exact Kd.R_types ho hb ht
theorem IsS67.own_ne {w0 W : World} {g : Nat} {f0 : List Int} {f1 : Int} {f2 : Int} {α : Type} {d : Kd α} {e : Nat} {base : Nat} {ok : Nat → Prop} {v : Value} {xs : List α} (h : IsS67 w0 W g f0 f1 f2) (ho : d.R e W base ok v xs) (ht : e ≠ 67) : some g ≠ v.ownBlock := by
 obtain ⟨A0, c0, hb, hg, hr0⟩ := h
 exact Kd.R_ne ho hb ht
theorem IsS67.ge {w0 W : World} {g : Nat} {f0 : List Int} {f1 : Int} {f2 : Int} (h : IsS67 w0 W g f0 f1 f2) : w0.heap.size ≤ g := by
 obtain ⟨A0, c0, hb, hg, hr0⟩ := h
 exact hg
theorem cellS67_0 {W : World} {g : Nat} {A0 : Option Addr} {c0 : Nat} {f0 : List Int} {f1 : Int} {f2 : Int} (h : W.heap[g]? = some (.cells #[.slice A0 f0.length c0, .int .i64 f1, .int .u64 f2] 67 (0, 0))) : W.cell? ⟨g, 0, none⟩ = some (.slice A0 f0.length c0) := (blk_cell h 0).trans rfl
theorem cellS67_1 {W : World} {g : Nat} {A0 : Option Addr} {c0 : Nat} {f0 : List Int} {f1 : Int} {f2 : Int} (h : W.heap[g]? = some (.cells #[.slice A0 f0.length c0, .int .i64 f1, .int .u64 f2] 67 (0, 0))) : W.cell? ⟨g, 1, none⟩ = some (.int .i64 f1) := (blk_cell h 1).trans rfl
theorem IsS67.set_1 {w0 W : World} {g : Nat} {f0 : List Int} {f1 : Int} {f2 : Int} (h : IsS67 w0 W g f0 f1 f2) (x : Int) : IsS67 w0 (W.setCell ⟨g, 1, none⟩ (.int .i64 x)) g f0 x f2 := by
 obtain ⟨A0, c0, hb, hg, hr0⟩ := h
 exact ⟨A0, c0, by simpa using blk_set hb 1 (.int .i64 x), hg, hr0⟩
theorem cellS67_2 {W : World} {g : Nat} {A0 : Option Addr} {c0 : Nat} {f0 : List Int} {f1 : Int} {f2 : Int} (h : W.heap[g]? = some (.cells #[.slice A0 f0.length c0, .int .i64 f1, .int .u64 f2] 67 (0, 0))) : W.cell? ⟨g, 2, none⟩ = some (.int .u64 f2) := (blk_cell h 2).trans rfl
theorem IsS67.set_2 {w0 W : World} {g : Nat} {f0 : List Int} {f1 : Int} {f2 : Int} (h : IsS67 w0 W g f0 f1 f2) (x : Int) : IsS67 w0 (W.setCell ⟨g, 2, none⟩ (.int .u64 x)) g f0 f1 x := by
 obtain ⟨A0, c0, hb, hg, hr0⟩ := h
 exact ⟨A0, c0, by simpa using blk_set hb 2 (.int .u64 x), hg, hr0⟩
theorem IsS67.new (w0 W : World) (A0 : Option Addr) (c0 : Nat) (f0 : List Int) (f1 : Int) (f2 : Int) (hB : Below w0.heap.size w0 W) (hr0 : Kd.C (Kd.int .u8) w0 A0 f0.length f0) : IsS67 w0 (W.alloc (.cells #[.slice A0 f0.length c0, .int .i64 f1, .int .u64 f2] 67)) W.heap.size f0 f1 f2 := ⟨A0, c0, by simpa using heap_alloc_new W _, hB.size, hr0⟩
def spec_l00From.f (l0 : List Int) : Option (List Int × Int × Int) := some (l0, 0, 0)
set_option maxHeartbeats 8000000 in
set_option maxRecDepth 100000 in
theorem spec_l00From.calls (A0 : Option Addr) (c0 : Nat) (l0 : List Int) (r1 : List Int) (r2 : Int) (r3 : Int) (w0 w : World) (hB : Below w0.heap.size w0 w) (hr0 : Kd.C (Kd.int .u8) w0 A0 l0.length l0) (hc0 : l0.length ≤ c0) (h : spec_l00From.f l0 = some (r1, r2, r3)) :
  Calls Try.prog 31 #[.slice A0 l0.length c0] w fun e w' => ∃ g_ : Nat, e = .returned (.pointer (some ⟨g_, 0, none⟩)) ∧ IsS67 w0 w' g_ r1 r2 r3 ∧ Below w0.heap.size w0 w' ∧ Below w.heap.size w w' := by
 have hu67 := Try.underlying67
 have HR0 := Aside0.mk hr0
 have HC0 := Aside0.mk hc0
 clear hr0 hc0
 have HBW := Aside0.mk (Below.refl w.heap.size w)
 have HW0 := Aside0.mk hB.size
 have HB := Aside0.mk hB
 clear hB
 have H : (some (l0, 0, 0)) = some (r1, r2, r3) := h
 clear h
 simp only [Option.some.injEq, Prod.mk.injEq] at H
 obtain ⟨rfl, rfl, rfl⟩ := H
 go_enter Try.func31, Try.ntmps31
 go_wp2_with (first | ((with_reducible refine gate_dst (N := 5) rfl ?_); refine boxZ 5 #[.slice A0 l0.length c0, .int .i64 0, .int .u64 0] 67 rfl rfl ?_; intro gb163 hg w2 hbox hb; have n0_ := Aside0.mk (below_step HBW.out hb); have n1_ := Aside0.mk (below_step bZ hb); have n2_ := Aside0.mk (hbox); have n3_ := Aside0.mk ((by rw [hg]; exact (below_size (by repeat (first | (with_reducible first | exact HBW.out | apply below_alloc | apply pw_below_drewN | apply below_drew1) | exact HBW.out))) : w.heap.size ≤ gb163)); have n4_ := Aside0.mk ((Nat.le_trans HW0.out (by rw [hg]; exact (below_size (by repeat (first | (with_reducible first | exact HBW.out | apply below_alloc | apply pw_below_drewN | apply below_drew1) | exact HBW.out))) : w.heap.size ≤ gb163) : w0.heap.size ≤ gb163)); clear HBW; clear HB; have HBW := n0_; have HB := n1_; have BK163 := n2_; have GW163 := n3_; have GE163 := n4_; clear n0_ n1_ n2_ n3_ n4_; clear hb hbox hg))
 go_ret
 exact ⟨_, rfl, (show IsS67 w0 _ gb163 l0 0 0 from ⟨_, _, kZ BK163.out, GE163.out, HR0.out⟩), bZ, by repeat (first | (with_reducible first | exact HBW.out | apply below_alloc | apply pw_below_drewN | apply below_drew1 | refine below_set ?_ GW163.out) | exact HBW.out)⟩
def spec_l00Src_next.f (s0_0 : List Int) (s0_1 : Int) (s0_2 : Int) : Option (Int × Int × Int) := if s0_1 < (s0_0.length : Int) then (if 0 ≤ s0_1 then (if (wrap64 (s0_1 + 1)) ≤ (s0_0.length : Int) then (some (wrap64 (rd s0_0 s0_1), wrap64 (s0_1 + 1), IntKind.u64.wrap ((IntKind.u64.wrap ((IntKind.u64.wrap (s0_2 * 6364136223846793005)) + (IntKind.u64.wrap (wrap64 (rd s0_0 s0_1))))) + 1442695040888963407))) else (some (wrap64 (Go.bits .and .u64 ((IntKind.u64.wrap ((IntKind.u64.wrap ((IntKind.u64.wrap (s0_2 * 6364136223846793005)) + (IntKind.u64.wrap (wrap64 (rd s0_0 s0_1))))) + 1442695040888963407)) / 1099511627776) 255), wrap64 (s0_1 + 1), IntKind.u64.wrap ((IntKind.u64.wrap ((IntKind.u64.wrap (s0_2 * 6364136223846793005)) + (IntKind.u64.wrap (wrap64 (rd s0_0 s0_1))))) + 1442695040888963407)))) else (none)) else (if (wrap64 (s0_1 + 1)) ≤ (s0_0.length : Int) then (some (0, wrap64 (s0_1 + 1), IntKind.u64.wrap ((IntKind.u64.wrap ((IntKind.u64.wrap (s0_2 * 6364136223846793005)))) + 1442695040888963407))) else (some (wrap64 (Go.bits .and .u64 ((IntKind.u64.wrap ((IntKind.u64.wrap ((IntKind.u64.wrap (s0_2 * 6364136223846793005)))) + 1442695040888963407)) / 1099511627776) 255), wrap64 (s0_1 + 1), IntKind.u64.wrap ((IntKind.u64.wrap ((IntKind.u64.wrap (s0_2 * 6364136223846793005)))) + 1442695040888963407))))
set_option maxHeartbeats 8000000 in
set_option maxRecDepth 100000 in
theorem spec_l00Src_next.calls (g : Nat) (s0_0 : List Int) (s0_1 : Int) (s0_2 : Int) (r1 : Int) (r2 : Int) (r3 : Int) (w0 w : World) (hI : IsS67 w0 w g s0_0 s0_1 s0_2) (hB : Below w0.heap.size w0 w) (h : spec_l00Src_next.f s0_0 s0_1 s0_2 = some (r1, r2, r3)) :
  Calls Try.prog 44 #[.pointer (some ⟨g, 0, none⟩)] w fun e w' => e = .returned (.int .i64 r1) ∧ IsS67 w0 w' g s0_0 r2 r3 ∧ Below w0.heap.size w0 w' ∧ KeepBut w w' g none := by
 have HI0 := Aside0.mk hI
 have HK := Aside0.mk (KeepBut.refl w g none)
 have HL := Aside0.mk hB.size
 clear hI
 have HW0 := Aside0.mk hB.size
 have HB := Aside0.mk hB
 clear hB
 have H : (if s0_1 < (s0_0.length : Int) then (if 0 ≤ s0_1 then (if (wrap64 (s0_1 + 1)) ≤ (s0_0.length : Int) then (some (wrap64 (rd s0_0 s0_1), wrap64 (s0_1 + 1), IntKind.u64.wrap ((IntKind.u64.wrap ((IntKind.u64.wrap (s0_2 * 6364136223846793005)) + (IntKind.u64.wrap (wrap64 (rd s0_0 s0_1))))) + 1442695040888963407))) else (some (wrap64 (Go.bits .and .u64 ((IntKind.u64.wrap ((IntKind.u64.wrap ((IntKind.u64.wrap (s0_2 * 6364136223846793005)) + (IntKind.u64.wrap (wrap64 (rd s0_0 s0_1))))) + 1442695040888963407)) / 1099511627776) 255), wrap64 (s0_1 + 1), IntKind.u64.wrap ((IntKind.u64.wrap ((IntKind.u64.wrap (s0_2 * 6364136223846793005)) + (IntKind.u64.wrap (wrap64 (rd s0_0 s0_1))))) + 1442695040888963407)))) else (none)) else (if (wrap64 (s0_1 + 1)) ≤ (s0_0.length : Int) then (some (0, wrap64 (s0_1 + 1), IntKind.u64.wrap ((IntKind.u64.wrap ((IntKind.u64.wrap (s0_2 * 6364136223846793005)))) + 1442695040888963407))) else (some (wrap64 (Go.bits .and .u64 ((IntKind.u64.wrap ((IntKind.u64.wrap ((IntKind.u64.wrap (s0_2 * 6364136223846793005)))) + 1442695040888963407)) / 1099511627776) 255), wrap64 (s0_1 + 1), IntKind.u64.wrap ((IntKind.u64.wrap ((IntKind.u64.wrap (s0_2 * 6364136223846793005)))) + 1442695040888963407))))) = some (r1, r2, r3) := h
 clear h
 by_cases c2 : s0_1 < (s0_0.length : Int)
 ·rw [if_pos c2] at H
  have c2b0 : decide (s0_1 < (s0_0.length : Int)) = true := decide_eq_true c2
  clear c2
  by_cases c3 : 0 ≤ s0_1
  ·rw [if_pos c3] at H
   have c3b0 : decide (0 ≤ s0_1) = true := decide_eq_true c3
   clear c3
   by_cases c4 : (wrap64 (s0_1 + 1)) ≤ (s0_0.length : Int)
   ·rw [if_pos c4] at H
    have c4b0 : decide ((wrap64 (s0_1 + 1)) ≤ (s0_0.length : Int)) = true := decide_eq_true c4
    clear c4
    simp only [Option.some.injEq, Prod.mk.injEq] at H
    obtain ⟨rfl, rfl, rfl⟩ := H
    obtain ⟨ASz5_0, cSz5_0, HGz5, hgz5, HSz5_0⟩ := HI0.out
    have hcz5_0 := cellS67_0 HGz5
    have hcz5_1 := cellS67_1 HGz5
    have hcz5_2 := cellS67_2 HGz5
    have hfz5_1 := blk_frozen HGz5 1
    have hfz5_2 := blk_frozen HGz5 2
    clear HGz5 hgz5
    have p164 : 0 ≤ (s0_1 : Int) := oZ
    have q164 : s0_1 < (s0_0.length : Int) := oZ
    obtain ⟨ad164, e164, hx164_0⟩ := Kd.at_int HSz5_0 s0_1 p164 q164
    cases e164
    replace hx164_0 := pw_cell_below HB.out hx164_0
    replace p164 := eq_true p164
    replace q164 := eq_true q164
    go_enter Try.func44, Try.ntmps44
    go_wp2
    repeat (go_quiet (fail); try go_wp2)
    go_ret
    exact ⟨eZ, by repeat (first | (with_reducible first | exact HI0.out | apply IsS67.alloc | apply IsS67.drewN | apply IsS67.drew | apply IsS67.set_1 | apply IsS67.set_2) | exact HI0.out), by repeat (first | (with_reducible first | exact HB.out | apply below_alloc | apply pw_below_drewN | apply below_drew1 | refine below_set ?_ (IsS67.ge HI0.out)) | exact HB.out), by repeat (first | (with_reducible first | exact HK.out | apply KeepBut.set_ | apply keep_drewN | apply keep_drew | apply keep_alloc) | exact HK.out)⟩
   ·rw [if_neg c4] at H
    have c4b0 : decide ((wrap64 (s0_1 + 1)) ≤ (s0_0.length : Int)) = false := decide_eq_false c4
    clear c4
    simp only [Option.some.injEq, Prod.mk.injEq] at H
    obtain ⟨rfl, rfl, rfl⟩ := H
    obtain ⟨ASz6_0, cSz6_0, HGz6, hgz6, HSz6_0⟩ := HI0.out
    have hcz6_0 := cellS67_0 HGz6
    have hcz6_1 := cellS67_1 HGz6
    have hcz6_2 := cellS67_2 HGz6
    have hfz6_1 := blk_frozen HGz6 1
    have hfz6_2 := blk_frozen HGz6 2
    clear HGz6 hgz6
    have p164 : 0 ≤ (s0_1 : Int) := oZ
    have q164 : s0_1 < (s0_0.length : Int) := oZ
    obtain ⟨ad164, e164, hx164_0⟩ := Kd.at_int HSz6_0 s0_1 p164 q164
    cases e164
    replace hx164_0 := pw_cell_below HB.out hx164_0
    replace p164 := eq_true p164
    replace q164 := eq_true q164
    go_enter Try.func44, Try.ntmps44
    go_wp2
    repeat (go_quiet (fail); try go_wp2)
    go_ret
    exact ⟨eZ, by repeat (first | (with_reducible first | exact HI0.out | apply IsS67.alloc | apply IsS67.drewN | apply IsS67.drew | apply IsS67.set_1 | apply IsS67.set_2) | exact HI0.out), by repeat (first | (with_reducible first | exact HB.out | apply below_alloc | apply pw_below_drewN | apply below_drew1 | refine below_set ?_ (IsS67.ge HI0.out)) | exact HB.out), by repeat (first | (with_reducible first | exact HK.out | apply KeepBut.set_ | apply keep_drewN | apply keep_drew | apply keep_alloc) | exact HK.out)⟩
  ·rw [if_neg c3] at H
   exact absurd H (by simp)
 ·rw [if_neg c2] at H
  have c2b0 : decide (s0_1 < (s0_0.length : Int)) = false := decide_eq_false c2
  clear c2
  by_cases c7 : (wrap64 (s0_1 + 1)) ≤ (s0_0.length : Int)
  ·rw [if_pos c7] at H
   have c7b0 : decide ((wrap64 (s0_1 + 1)) ≤ (s0_0.length : Int)) = true := decide_eq_true c7
   clear c7
   simp only [Option.some.injEq, Prod.mk.injEq] at H
   obtain ⟨rfl, rfl, rfl⟩ := H
   obtain ⟨ASz8_0, cSz8_0, HGz8, hgz8, HSz8_0⟩ := HI0.out
   have hcz8_0 := cellS67_0 HGz8
   have hcz8_1 := cellS67_1 HGz8
   have hcz8_2 := cellS67_2 HGz8
   have hfz8_1 := blk_frozen HGz8 1
   have hfz8_2 := blk_frozen HGz8 2
   clear HGz8 hgz8
   go_enter Try.func44, Try.ntmps44
   go_wp2
   repeat (go_quiet (fail); try go_wp2)
   go_ret
   exact ⟨eZ, by repeat (first | (with_reducible first | exact HI0.out | apply IsS67.alloc | apply IsS67.drewN | apply IsS67.drew | apply IsS67.set_1 | apply IsS67.set_2) | exact HI0.out), by repeat (first | (with_reducible first | exact HB.out | apply below_alloc | apply pw_below_drewN | apply below_drew1 | refine below_set ?_ (IsS67.ge HI0.out)) | exact HB.out), by repeat (first | (with_reducible first | exact HK.out | apply KeepBut.set_ | apply keep_drewN | apply keep_drew | apply keep_alloc) | exact HK.out)⟩
  ·rw [if_neg c7] at H
   have c7b0 : decide ((wrap64 (s0_1 + 1)) ≤ (s0_0.length : Int)) = false := decide_eq_false c7
   clear c7
   simp only [Option.some.injEq, Prod.mk.injEq] at H
   obtain ⟨rfl, rfl, rfl⟩ := H
   obtain ⟨ASz9_0, cSz9_0, HGz9, hgz9, HSz9_0⟩ := HI0.out
   have hcz9_0 := cellS67_0 HGz9
   have hcz9_1 := cellS67_1 HGz9
   have hcz9_2 := cellS67_2 HGz9
   have hfz9_1 := blk_frozen HGz9 1
   have hfz9_2 := blk_frozen HGz9 2
   clear HGz9 hgz9
   go_enter Try.func44, Try.ntmps44
   go_wp2
   repeat (go_quiet (fail); try go_wp2)
   go_ret
   exact ⟨eZ, by repeat (first | (with_reducible first | exact HI0.out | apply IsS67.alloc | apply IsS67.drewN | apply IsS67.drew | apply IsS67.set_1 | apply IsS67.set_2) | exact HI0.out), by repeat (first | (with_reducible first | exact HB.out | apply below_alloc | apply pw_below_drewN | apply below_drew1 | refine below_set ?_ (IsS67.ge HI0.out)) | exact HB.out), by repeat (first | (with_reducible first | exact HK.out | apply KeepBut.set_ | apply keep_drewN | apply keep_drew | apply keep_alloc) | exact HK.out)⟩
end Go.Proofs.Ytpkcjkfkohmcfaa.XN
end

section
namespace Go.Proofs.Ytpkcjkfkohmcfaa.XN
open Go.RowKit Go.Proofs.YtpkcjkfkohmcfaaW.PrintWords Go.Proofs.YtpkcjkfkohmcfaaW.PrintLast Go.Proofs.YtpkcjkfkohmcfaaW.PrintMore
attribute [local go_sem] run_eql_slice_nil binOp_string_gtr' binOp_string_leq' binOp_string_geq' max2_int min2_int max_two min_two max_three min_three max_four min_four   -- for this text's walks alone
set_option linter.unusedVariables false
set_option linter.unusedSimpArgs false
def spec_l00Src_pick.f (s0_0 : List Int) (s0_1 : Int) (s0_2 : Int) (a1 : Int) : Option (Int × Int × Int) := if a1 ≤ 1 then (some (0, s0_1, s0_2)) else ((spec_l00Src_next.f s0_0 s0_1 s0_2).bind fun bt165 => (if a1 > 200 then ((spec_l00Src_next.f s0_0 bt165.2.1 bt165.2.2).bind fun bt168 => (if a1 = 0 then (none) else (some (Int.tmod (wrap64 ((wrap64 (bt165.1 * 256)) + bt168.1)) a1, bt168.2.1, bt168.2.2)))) else (if a1 = 0 then (none) else (some (Int.tmod bt165.1 a1, bt165.2.1, bt165.2.2)))))
set_option maxHeartbeats 8000000 in
set_option maxRecDepth 100000 in
theorem spec_l00Src_pick.calls (g : Nat) (s0_0 : List Int) (s0_1 : Int) (s0_2 : Int) (a1 : Int) (r1 : Int) (r2 : Int) (r3 : Int) (w0 w : World) (hI : IsS67 w0 w g s0_0 s0_1 s0_2) (hB : Below w0.heap.size w0 w) (h : spec_l00Src_pick.f s0_0 s0_1 s0_2 a1 = some (r1, r2, r3)) :
  Calls Try.prog 36 #[.pointer (some ⟨g, 0, none⟩), .int .i64 a1] w fun e w' => e = .returned (.int .i64 r1) ∧ IsS67 w0 w' g s0_0 r2 r3 ∧ Below w0.heap.size w0 w' ∧ KeepBut w w' g none := by
 have HI0 := Aside0.mk hI
 have HK := Aside0.mk (KeepBut.refl w g none)
 have HL := Aside0.mk hB.size
 clear hI
 have HW0 := Aside0.mk hB.size
 have HB := Aside0.mk hB
 clear hB
 have H : (if a1 ≤ 1 then (some (0, s0_1, s0_2)) else ((spec_l00Src_next.f s0_0 s0_1 s0_2).bind fun bt165 => (if a1 > 200 then ((spec_l00Src_next.f s0_0 bt165.2.1 bt165.2.2).bind fun bt168 => (if a1 = 0 then (none) else (some (Int.tmod (wrap64 ((wrap64 (bt165.1 * 256)) + bt168.1)) a1, bt168.2.1, bt168.2.2)))) else (if a1 = 0 then (none) else (some (Int.tmod bt165.1 a1, bt165.2.1, bt165.2.2)))))) = some (r1, r2, r3) := h
 clear h
 by_cases c3 : a1 ≤ 1
 ·rw [if_pos c3] at H
  have c3b0 : decide (a1 ≤ 1) = true := decide_eq_true c3
  clear c3
  simp only [Option.some.injEq, Prod.mk.injEq] at H
  obtain ⟨rfl, rfl, rfl⟩ := H
  go_enter Try.func36, Try.ntmps36
  go_wp2
  go_ret
  exact ⟨eZ, by repeat (first | (with_reducible first | exact HI0.out | apply IsS67.alloc | apply IsS67.drewN | apply IsS67.drew | apply IsS67.set_1 | apply IsS67.set_2) | exact HI0.out), by repeat (first | (with_reducible first | exact HB.out | apply below_alloc | apply pw_below_drewN | apply below_drew1 | refine below_set ?_ (IsS67.ge HI0.out)) | exact HB.out), by repeat (first | (with_reducible first | exact HK.out | apply KeepBut.set_ | apply keep_drewN | apply keep_drew | apply keep_alloc) | exact HK.out)⟩
 ·rw [if_neg c3] at H
  have c3b0 : decide (a1 ≤ 1) = false := decide_eq_false c3
  clear c3
  replace H := Option.bind_eq_some_iff.mp H
  obtain ⟨⟨t165, t166, t167⟩, A40, H⟩ := H
  replace H : (if a1 > 200 then ((spec_l00Src_next.f s0_0 t166 t167).bind fun bt168 => (if a1 = 0 then (none) else (some (Int.tmod (wrap64 ((wrap64 (t165 * 256)) + bt168.1)) a1, bt168.2.1, bt168.2.2)))) else (if a1 = 0 then (none) else (some (Int.tmod t165 a1, t166, t167)))) = some (r1, r2, r3) := H
  have A4 := Aside0.mk A40
  clear A40
  by_cases c5 : a1 > 200
  ·rw [if_pos c5] at H
   have c5b0 : decide (200 < a1) = true := decide_eq_true c5
   clear c5
   replace H := Option.bind_eq_some_iff.mp H
   obtain ⟨⟨t168, t169, t170⟩, A60, H⟩ := H
   replace H : (if a1 = 0 then (none) else (some (Int.tmod (wrap64 ((wrap64 (t165 * 256)) + t168)) a1, t169, t170))) = some (r1, r2, r3) := H
   have A6 := Aside0.mk A60
   clear A60
   by_cases c7 : a1 = 0
   ·rw [if_pos c7] at H
    exact absurd H (by simp)
   ·rw [if_neg c7] at H
    have c7b0 : (a1 == 0) = false := beq_eq_false_iff_ne.mpr c7
    have c7b1 : (a1 != 0) = true := bne_iff_ne.mpr c7
    simp only [Option.some.injEq, Prod.mk.injEq] at H
    obtain ⟨rfl, rfl, rfl⟩ := H
    go_enter Try.func36, Try.ntmps36
    go_wp2_with (first | ((with_reducible refine gate_callee (f := 44) rfl ?_); refine goesL_ (some 9) rfl rfl Try.func44 (by kernel_rfl) rfl #[.pointer (some ⟨g, 0, none⟩)] rfl gZ ?_; (with_reducible refine (spec_l00Src_next.calls g s0_0 s0_1 s0_2 t165 t166 t167 w0 _ ?side1 ?side2 A4.out).mono ?_); (case side1 => repeat (first | (with_reducible first | exact HI0.out | apply IsS67.alloc | apply IsS67.drewN | apply IsS67.drew | apply IsS67.set_1 | apply IsS67.set_2) | exact HI0.out)); (case side2 => repeat (first | (with_reducible first | exact HB.out | apply below_alloc | apply pw_below_drewN | apply below_drew1 | refine below_set ?_ (IsS67.ge HI0.out)) | exact HB.out)); rintro e w8 ⟨rfl, hi, hb, hk⟩; refine ⟨_, rfl, ?_⟩; have n0_ := Aside0.mk (KeepBut.trans (by repeat (first | (with_reducible first | exact HK.out | apply KeepBut.set_ | apply keep_drewN | apply keep_drew | apply keep_alloc) | exact HK.out)) hk (.inl rfl)); have n1_ := Aside0.mk (hb); have n2_ := Aside0.mk (hi); clear HK; clear HB; clear HI0; have HK := n0_; have HB := n1_; have HI0 := n2_; clear n0_ n1_ n2_; (try clear hb); (try clear hb2); (try clear hk); (try clear hi)) | ((with_reducible refine gate_callee (f := 44) rfl ?_); refine goesL_ (some 15) rfl rfl Try.func44 (by kernel_rfl) rfl #[.pointer (some ⟨g, 0, none⟩)] rfl gZ ?_; (with_reducible refine (spec_l00Src_next.calls g s0_0 t166 t167 t168 t169 t170 w0 _ ?side1 ?side2 A6.out).mono ?_); (case side1 => repeat (first | (with_reducible first | exact HI0.out | apply IsS67.alloc | apply IsS67.drewN | apply IsS67.drew | apply IsS67.set_1 | apply IsS67.set_2) | exact HI0.out)); (case side2 => repeat (first | (with_reducible first | exact HB.out | apply below_alloc | apply pw_below_drewN | apply below_drew1 | refine below_set ?_ (IsS67.ge HI0.out)) | exact HB.out)); rintro e w9 ⟨rfl, hi, hb, hk⟩; refine ⟨_, rfl, ?_⟩; have n0_ := Aside0.mk (KeepBut.trans (by repeat (first | (with_reducible first | exact HK.out | apply KeepBut.set_ | apply keep_drewN | apply keep_drew | apply keep_alloc) | exact HK.out)) hk (.inl rfl)); have n1_ := Aside0.mk (hb); have n2_ := Aside0.mk (hi); clear HK; clear HB; clear HI0; have HK := n0_; have HB := n1_; have HI0 := n2_; clear n0_ n1_ n2_; (try clear hb); (try clear hb2); (try clear hk); (try clear hi)))
    go_ret
    exact ⟨eZ, by repeat (first | (with_reducible first | exact HI0.out | apply IsS67.alloc | apply IsS67.drewN | apply IsS67.drew | apply IsS67.set_1 | apply IsS67.set_2) | exact HI0.out), by repeat (first | (with_reducible first | exact HB.out | apply below_alloc | apply pw_below_drewN | apply below_drew1 | refine below_set ?_ (IsS67.ge HI0.out)) | exact HB.out), by repeat (first | (with_reducible first | exact HK.out | apply KeepBut.set_ | apply keep_drewN | apply keep_drew | apply keep_alloc) | exact HK.out)⟩
  ·rw [if_neg c5] at H
   have c5b0 : decide (200 < a1) = false := decide_eq_false c5
   clear c5
   by_cases c10 : a1 = 0
   ·rw [if_pos c10] at H
    exact absurd H (by simp)
   ·rw [if_neg c10] at H
    have c10b0 : (a1 == 0) = false := beq_eq_false_iff_ne.mpr c10
    have c10b1 : (a1 != 0) = true := bne_iff_ne.mpr c10
    simp only [Option.some.injEq, Prod.mk.injEq] at H
    obtain ⟨rfl, rfl, rfl⟩ := H
    go_enter Try.func36, Try.ntmps36
    go_wp2_with (first | ((with_reducible refine gate_callee (f := 44) rfl ?_); refine goesL_ (some 9) rfl rfl Try.func44 (by kernel_rfl) rfl #[.pointer (some ⟨g, 0, none⟩)] rfl gZ ?_; (with_reducible refine (spec_l00Src_next.calls g s0_0 s0_1 s0_2 t165 t166 t167 w0 _ ?side1 ?side2 A4.out).mono ?_); (case side1 => repeat (first | (with_reducible first | exact HI0.out | apply IsS67.alloc | apply IsS67.drewN | apply IsS67.drew | apply IsS67.set_1 | apply IsS67.set_2) | exact HI0.out)); (case side2 => repeat (first | (with_reducible first | exact HB.out | apply below_alloc | apply pw_below_drewN | apply below_drew1 | refine below_set ?_ (IsS67.ge HI0.out)) | exact HB.out)); rintro e w11 ⟨rfl, hi, hb, hk⟩; refine ⟨_, rfl, ?_⟩; have n0_ := Aside0.mk (KeepBut.trans (by repeat (first | (with_reducible first | exact HK.out | apply KeepBut.set_ | apply keep_drewN | apply keep_drew | apply keep_alloc) | exact HK.out)) hk (.inl rfl)); have n1_ := Aside0.mk (hb); have n2_ := Aside0.mk (hi); clear HK; clear HB; clear HI0; have HK := n0_; have HB := n1_; have HI0 := n2_; clear n0_ n1_ n2_; (try clear hb); (try clear hb2); (try clear hk); (try clear hi)))
    go_ret
    exact ⟨eZ, by repeat (first | (with_reducible first | exact HI0.out | apply IsS67.alloc | apply IsS67.drewN | apply IsS67.drew | apply IsS67.set_1 | apply IsS67.set_2) | exact HI0.out), by repeat (first | (with_reducible first | exact HB.out | apply below_alloc | apply pw_below_drewN | apply below_drew1 | refine below_set ?_ (IsS67.ge HI0.out)) | exact HB.out), by repeat (first | (with_reducible first | exact HK.out | apply KeepBut.set_ | apply keep_drewN | apply keep_drew | apply keep_alloc) | exact HK.out)⟩
def spec_l00Src_among.f (s0_0 : List Int) (s0_1 : Int) (s0_2 : Int) (l1 : List Int) : Option (Int × Int × Int) := (spec_l00Src_pick.f s0_0 s0_1 s0_2 (l1.length : Int)).bind fun bt171 => (if 0 ≤ bt171.1 then (if bt171.1 < (l1.length : Int) then (some (rd l1 bt171.1, bt171.2.1, bt171.2.2)) else (none)) else (none))
set_option maxHeartbeats 8000000 in
set_option maxRecDepth 100000 in
theorem spec_l00Src_among.calls (g : Nat) (s0_0 : List Int) (s0_1 : Int) (s0_2 : Int) (A1 : Option Addr) (c1 : Nat) (l1 : List Int) (r1 : Int) (r2 : Int) (r3 : Int) (w0 w : World) (hI : IsS67 w0 w g s0_0 s0_1 s0_2) (hB : Below w0.heap.size w0 w) (hr1 : Kd.C (Kd.int .i64) w A1 l1.length l1) (hc1 : l1.length ≤ c1) (hf1 : ∀ ad, A1 = some ad → 0 < l1.length → ad.block ≠ g) (h : spec_l00Src_among.f s0_0 s0_1 s0_2 l1 = some (r1, r2, r3)) :
  Calls Try.prog 33 #[.pointer (some ⟨g, 0, none⟩), .slice A1 l1.length c1] w fun e w' => e = .returned (.int .i64 r1) ∧ IsS67 w0 w' g s0_0 r2 r3 ∧ Below w0.heap.size w0 w' ∧ KeepBut w w' g none := by
 have HR1 := Aside0.mk hr1
 have HC1 := Aside0.mk hc1
 clear hr1 hc1
 have HI0 := Aside0.mk hI
 have HK := Aside0.mk (KeepBut.refl w g none)
 have HL := Aside0.mk hB.size
 clear hI
 have HW0 := Aside0.mk hB.size
 have HB := Aside0.mk hB
 clear hB
 have H : ((spec_l00Src_pick.f s0_0 s0_1 s0_2 (l1.length : Int)).bind fun bt171 => (if 0 ≤ bt171.1 then (if bt171.1 < (l1.length : Int) then (some (rd l1 bt171.1, bt171.2.1, bt171.2.2)) else (none)) else (none))) = some (r1, r2, r3) := h
 clear h
 replace H := Option.bind_eq_some_iff.mp H
 obtain ⟨⟨t171, t172, t173⟩, A30, H⟩ := H
 replace H : (if 0 ≤ t171 then (if t171 < (l1.length : Int) then (some (rd l1 t171, t172, t173)) else (none)) else (none)) = some (r1, r2, r3) := H
 have A3 := Aside0.mk A30
 clear A30
 by_cases c4 : 0 ≤ t171
 ·rw [if_pos c4] at H
  have c4b0 : decide (0 ≤ t171) = true := decide_eq_true c4
  clear c4
  by_cases c5 : t171 < (l1.length : Int)
  ·rw [if_pos c5] at H
   have c5b0 : decide (t171 < (l1.length : Int)) = true := decide_eq_true c5
   clear c5
   simp only [Option.some.injEq, Prod.mk.injEq] at H
   obtain ⟨rfl, rfl, rfl⟩ := H
   go_enter Try.func33, Try.ntmps33
   go_wp2_with (first | ((with_reducible refine gate_callee (f := 36) rfl ?_); refine goesL_ (some 9) rfl rfl Try.func36 (by kernel_rfl) rfl #[.pointer (some ⟨g, 0, none⟩), .int .i64 (l1.length : Int)] rfl gZ ?_; (with_reducible refine (spec_l00Src_pick.calls g s0_0 s0_1 s0_2 (l1.length : Int) t171 t172 t173 w0 _ ?side1 ?side2 A3.out).mono ?_); (case side1 => repeat (first | (with_reducible first | exact HI0.out | apply IsS67.alloc | apply IsS67.drewN | apply IsS67.drew | apply IsS67.set_1 | apply IsS67.set_2) | exact HI0.out)); (case side2 => repeat (first | (with_reducible first | exact HB.out | apply below_alloc | apply pw_below_drewN | apply below_drew1 | refine below_set ?_ (IsS67.ge HI0.out)) | exact HB.out)); rintro e w6 ⟨rfl, hi, hb, hk⟩; refine ⟨_, rfl, ?_⟩; have n0_ := Aside0.mk (KeepBut.trans (by repeat (first | (with_reducible first | exact HK.out | apply KeepBut.set_ | apply keep_drewN | apply keep_drew | apply keep_alloc) | exact HK.out)) hk (.inl rfl)); have n1_ := Aside0.mk (hb); have n2_ := Aside0.mk (hi); clear HK; clear HB; clear HI0; have HK := n0_; have HB := n1_; have HI0 := n2_; clear n0_ n1_ n2_; (try clear hb); (try clear hb2); (try clear hk); (try clear hi); have p174 : 0 ≤ (t171 : Int) := oZ; have q174 : t171 < (l1.length : Int) := oZ; obtain ⟨ad174, e174, hx174_0⟩ := Kd.at_int HR1.out t171 p174 q174; cases e174; replace hx174_0 := keep_cell HK.out hx174_0 (by first | (rw [add_block]; exact hf1 _ rfl (by omega)) | exact hf1 _ rfl (by omega) | exact hf1 ad174 rfl (by omega)); replace p174 := eq_true p174; replace q174 := eq_true q174))
   go_ret
   exact ⟨eZ, by repeat (first | (with_reducible first | exact HI0.out | apply IsS67.alloc | apply IsS67.drewN | apply IsS67.drew | apply IsS67.set_1 | apply IsS67.set_2) | exact HI0.out), by repeat (first | (with_reducible first | exact HB.out | apply below_alloc | apply pw_below_drewN | apply below_drew1 | refine below_set ?_ (IsS67.ge HI0.out)) | exact HB.out), by repeat (first | (with_reducible first | exact HK.out | apply KeepBut.set_ | apply keep_drewN | apply keep_drew | apply keep_alloc) | exact HK.out)⟩
  ·rw [if_neg c5] at H
   exact absurd H (by simp)
 ·rw [if_neg c4] at H
  exact absurd H (by simp)
def spec_l00Src_text.f (s0_0 : List Int) (s0_1 : Int) (s0_2 : Int) (l1 : List ByteArray) : Option (ByteArray × Int × Int) := (spec_l00Src_pick.f s0_0 s0_1 s0_2 (l1.length : Int)).bind fun bt175 => (if 0 ≤ bt175.1 then (if bt175.1 < (l1.length : Int) then (some (rdOf ByteArray.empty l1 bt175.1, bt175.2.1, bt175.2.2)) else (none)) else (none))
set_option maxHeartbeats 8000000 in
set_option maxRecDepth 100000 in
theorem spec_l00Src_text.calls (g : Nat) (s0_0 : List Int) (s0_1 : Int) (s0_2 : Int) (A1 : Option Addr) (c1 : Nat) (l1 : List ByteArray) (r1 : ByteArray) (r2 : Int) (r3 : Int) (w0 w : World) (hI : IsS67 w0 w g s0_0 s0_1 s0_2) (hB : Below w0.heap.size w0 w) (hr1 : Kd.C Kd.string w A1 l1.length l1) (hc1 : l1.length ≤ c1) (hf1 : ∀ ad, A1 = some ad → 0 < l1.length → ad.block ≠ g) (h : spec_l00Src_text.f s0_0 s0_1 s0_2 l1 = some (r1, r2, r3)) :
  Calls Try.prog 34 #[.pointer (some ⟨g, 0, none⟩), .slice A1 l1.length c1] w fun e w' => e = .returned (.string r1) ∧ IsS67 w0 w' g s0_0 r2 r3 ∧ Below w0.heap.size w0 w' ∧ KeepBut w w' g none := by
 have HR1 := Aside0.mk hr1
 have HC1 := Aside0.mk hc1
 clear hr1 hc1
 have HI0 := Aside0.mk hI
 have HK := Aside0.mk (KeepBut.refl w g none)
 have HL := Aside0.mk hB.size
 clear hI
 have HW0 := Aside0.mk hB.size
 have HB := Aside0.mk hB
 clear hB
 have H : ((spec_l00Src_pick.f s0_0 s0_1 s0_2 (l1.length : Int)).bind fun bt175 => (if 0 ≤ bt175.1 then (if bt175.1 < (l1.length : Int) then (some (rdOf ByteArray.empty l1 bt175.1, bt175.2.1, bt175.2.2)) else (none)) else (none))) = some (r1, r2, r3) := h
 clear h
 replace H := Option.bind_eq_some_iff.mp H
 obtain ⟨⟨t175, t176, t177⟩, A30, H⟩ := H
 replace H : (if 0 ≤ t175 then (if t175 < (l1.length : Int) then (some (rdOf ByteArray.empty l1 t175, t176, t177)) else (none)) else (none)) = some (r1, r2, r3) := H
 have A3 := Aside0.mk A30
 clear A30
 by_cases c4 : 0 ≤ t175
 ·rw [if_pos c4] at H
  have c4b0 : decide (0 ≤ t175) = true := decide_eq_true c4
  clear c4
  by_cases c5 : t175 < (l1.length : Int)
  ·rw [if_pos c5] at H
   have c5b0 : decide (t175 < (l1.length : Int)) = true := decide_eq_true c5
   clear c5
   simp only [Option.some.injEq, Prod.mk.injEq] at H
   obtain ⟨rfl, rfl, rfl⟩ := H
   go_enter Try.func34, Try.ntmps34
   go_wp2_with (first | ((with_reducible refine gate_callee (f := 36) rfl ?_); refine goesL_ (some 9) rfl rfl Try.func36 (by kernel_rfl) rfl #[.pointer (some ⟨g, 0, none⟩), .int .i64 (l1.length : Int)] rfl gZ ?_; (with_reducible refine (spec_l00Src_pick.calls g s0_0 s0_1 s0_2 (l1.length : Int) t175 t176 t177 w0 _ ?side1 ?side2 A3.out).mono ?_); (case side1 => repeat (first | (with_reducible first | exact HI0.out | apply IsS67.alloc | apply IsS67.drewN | apply IsS67.drew | apply IsS67.set_1 | apply IsS67.set_2) | exact HI0.out)); (case side2 => repeat (first | (with_reducible first | exact HB.out | apply below_alloc | apply pw_below_drewN | apply below_drew1 | refine below_set ?_ (IsS67.ge HI0.out)) | exact HB.out)); rintro e w6 ⟨rfl, hi, hb, hk⟩; refine ⟨_, rfl, ?_⟩; have n0_ := Aside0.mk (KeepBut.trans (by repeat (first | (with_reducible first | exact HK.out | apply KeepBut.set_ | apply keep_drewN | apply keep_drew | apply keep_alloc) | exact HK.out)) hk (.inl rfl)); have n1_ := Aside0.mk (hb); have n2_ := Aside0.mk (hi); clear HK; clear HB; clear HI0; have HK := n0_; have HB := n1_; have HI0 := n2_; clear n0_ n1_ n2_; (try clear hb); (try clear hb2); (try clear hk); (try clear hi); have p178 : 0 ≤ (t175 : Int) := oZ; have q178 : t175 < (l1.length : Int) := oZ; obtain ⟨ad178, e178, hx178_0⟩ := Kd.at_string HR1.out t175 p178 q178; cases e178; replace hx178_0 := keep_cell HK.out hx178_0 (by first | (rw [add_block]; exact hf1 _ rfl (by omega)) | exact hf1 _ rfl (by omega) | exact hf1 ad178 rfl (by omega)); replace p178 := eq_true p178; replace q178 := eq_true q178))
   go_ret
   exact ⟨eZ, by repeat (first | (with_reducible first | exact HI0.out | apply IsS67.alloc | apply IsS67.drewN | apply IsS67.drew | apply IsS67.set_1 | apply IsS67.set_2) | exact HI0.out), by repeat (first | (with_reducible first | exact HB.out | apply below_alloc | apply pw_below_drewN | apply below_drew1 | refine below_set ?_ (IsS67.ge HI0.out)) | exact HB.out), by repeat (first | (with_reducible first | exact HK.out | apply KeepBut.set_ | apply keep_drewN | apply keep_drew | apply keep_alloc) | exact HK.out)⟩
  ·rw [if_neg c5] at H
   exact absurd H (by simp)
 ·rw [if_neg c4] at H
  exact absurd H (by simp)
def spec_l30DrawWord.f (s0_0 : List Int) (s0_1 : Int) (s0_2 : Int) : Option (ByteArray × Int × Int) := (spec_l00Src_text.f s0_0 s0_1 s0_2 (([(⟨#[97]⟩ : ByteArray), (⟨#[99, 99, 99]⟩ : ByteArray), (⟨#[49, 50]⟩ : ByteArray), (⟨#[45, 53]⟩ : ByteArray), (⟨#[97, 105, 114, 119, 97, 121]⟩ : ByteArray), (⟨#[]⟩ : ByteArray), (⟨#[120, 44, 121]⟩ : ByteArray), (⟨#[126]⟩ : ByteArray)] : List ByteArray))).bind fun bt182 => (some (bt182.1, bt182.2.1, bt182.2.2))
set_option maxHeartbeats 8000000 in
set_option maxRecDepth 100000 in
theorem spec_l30DrawWord.calls (g : Nat) (s0_0 : List Int) (s0_1 : Int) (s0_2 : Int) (r1 : ByteArray) (r2 : Int) (r3 : Int) (w0 w : World) (hI : IsS67 w0 w g s0_0 s0_1 s0_2) (hB : Below w0.heap.size w0 w) (h : spec_l30DrawWord.f s0_0 s0_1 s0_2 = some (r1, r2, r3)) :
  Calls Try.prog 42 #[.pointer (some ⟨g, 0, none⟩)] w fun e w' => e = .returned (.string r1) ∧ IsS67 w0 w' g s0_0 r2 r3 ∧ Below w0.heap.size w0 w' ∧ KeepBut w w' g none := by
 have HI0 := Aside0.mk hI
 have HK := Aside0.mk (KeepBut.refl w g none)
 have HL := Aside0.mk hB.size
 clear hI
 have HW0 := Aside0.mk hB.size
 have HB := Aside0.mk hB
 clear hB
 have H : ((spec_l00Src_text.f s0_0 s0_1 s0_2 (([(⟨#[97]⟩ : ByteArray), (⟨#[99, 99, 99]⟩ : ByteArray), (⟨#[49, 50]⟩ : ByteArray), (⟨#[45, 53]⟩ : ByteArray), (⟨#[97, 105, 114, 119, 97, 121]⟩ : ByteArray), (⟨#[]⟩ : ByteArray), (⟨#[120, 44, 121]⟩ : ByteArray), (⟨#[126]⟩ : ByteArray)] : List ByteArray))).bind fun bt182 => (some (bt182.1, bt182.2.1, bt182.2.2))) = some (r1, r2, r3) := h
 clear h
 obtain ⟨y179, hy179⟩ : ∃ y_ : List ByteArray, y_ = (([(⟨#[97]⟩ : ByteArray), (⟨#[99, 99, 99]⟩ : ByteArray), (⟨#[49, 50]⟩ : ByteArray), (⟨#[45, 53]⟩ : ByteArray), (⟨#[97, 105, 114, 119, 97, 121]⟩ : ByteArray), (⟨#[]⟩ : ByteArray), (⟨#[120, 44, 121]⟩ : ByteArray), (⟨#[126]⟩ : ByteArray)] : List ByteArray)) := ⟨_, rfl⟩
 replace H : ((spec_l00Src_text.f s0_0 s0_1 s0_2 y179).bind fun bt182 => (some (bt182.1, bt182.2.1, bt182.2.2))) = some (r1, r2, r3) := by first | (rw [hy179]; with_reducible exact H) | (have H2_ := (Option.bind_some _ _).symm.trans H; rw [hy179]; with_reducible exact H2_) | (have H2_ := (Option.bind_some _ _).symm.trans H; with_reducible exact H2_) | with_reducible exact H | (rw [hy179]; exact H) | exact H
 have Ny179 := Aside0.mk hy179
 clear hy179
 replace H := Option.bind_eq_some_iff.mp H
 obtain ⟨⟨t182, t183, t184⟩, A20, H⟩ := H
 replace H : (some (t182, t183, t184)) = some (r1, r2, r3) := H
 have A2 := Aside0.mk A20
 clear A20
 simp only [Option.some.injEq, Prod.mk.injEq] at H
 obtain ⟨rfl, rfl, rfl⟩ := H
 go_enter Try.func42, Try.ntmps42
 go_wp2_with (first | ((with_reducible refine gate_dst (N := 4) rfl ?_); refine Kd.R_lit Kd.string _ 9 ?hg (N := 4) ?hd (xs := ([(⟨#[97]⟩ : ByteArray), (⟨#[99, 99, 99]⟩ : ByteArray), (⟨#[49, 50]⟩ : ByteArray), (⟨#[45, 53]⟩ : ByteArray), (⟨#[97, 105, 114, 119, 97, 121]⟩ : ByteArray), (⟨#[]⟩ : ByteArray), (⟨#[120, 44, 121]⟩ : ByteArray), (⟨#[126]⟩ : ByteArray)] : List ByteArray)) (inner := [.string (⟨#[97]⟩ : ByteArray), .string (⟨#[99, 99, 99]⟩ : ByteArray), .string (⟨#[49, 50]⟩ : ByteArray), .string (⟨#[45, 53]⟩ : ByteArray), .string (⟨#[97, 105, 114, 119, 97, 121]⟩ : ByteArray), .string (⟨#[]⟩ : ByteArray), .string (⟨#[120, 44, 121]⟩ : ByteArray), .string (⟨#[126]⟩ : ByteArray)]) (ok := fun _ => True) (okp := fun _ => True) ?hr ?hp (fun _ hk => hk) trivial (Below.refl _ _) (Nat.le_refl _) (by simp) ?_; (case hd => rfl); (case hg => rfl); (case hr => first | (go_simp; done) | (go_simp; rfl)); (case hp => exact (Reps.one (show Kd.M Kd.string _ _ _ (⟨#[97]⟩ : ByteArray) [.string (⟨#[97]⟩ : ByteArray)] from rfl) (Reps.one (show Kd.M Kd.string _ _ _ (⟨#[99, 99, 99]⟩ : ByteArray) [.string (⟨#[99, 99, 99]⟩ : ByteArray)] from rfl) (Reps.one (show Kd.M Kd.string _ _ _ (⟨#[49, 50]⟩ : ByteArray) [.string (⟨#[49, 50]⟩ : ByteArray)] from rfl) (Reps.one (show Kd.M Kd.string _ _ _ (⟨#[45, 53]⟩ : ByteArray) [.string (⟨#[45, 53]⟩ : ByteArray)] from rfl) (Reps.one (show Kd.M Kd.string _ _ _ (⟨#[97, 105, 114, 119, 97, 121]⟩ : ByteArray) [.string (⟨#[97, 105, 114, 119, 97, 121]⟩ : ByteArray)] from rfl) (Reps.one (show Kd.M Kd.string _ _ _ (⟨#[]⟩ : ByteArray) [.string (⟨#[]⟩ : ByteArray)] from rfl) (Reps.one (show Kd.M Kd.string _ _ _ (⟨#[120, 44, 121]⟩ : ByteArray) [.string (⟨#[120, 44, 121]⟩ : ByteArray)] from rfl) (Reps.one (show Kd.M Kd.string _ _ _ (⟨#[126]⟩ : ByteArray) [.string (⟨#[126]⟩ : ByteArray)] from rfl) (Reps.none _ _)))))))))); intro v180 w3 ho4 hb hg_ hnew_; clear hg_ hnew_; (first | rw [← Ny179.out] at ho4 | (simp only [Int.reduceToNat] at ho4; rw [← Ny179.out] at ho4)); have n0_ := Aside0.mk (Kd.R_lower ho4 (keep_size (w := w) (g := g) (row := none) (by repeat (first | (with_reducible first | exact HK.out | apply KeepBut.set_ | apply keep_drewN | apply keep_drew | apply keep_alloc) | exact HK.out)))); have n1_ := Aside0.mk (IsS67.below (by repeat (first | (with_reducible first | exact HI0.out | apply IsS67.alloc | apply IsS67.drewN | apply IsS67.drew | apply IsS67.set_1 | apply IsS67.set_2) | exact HI0.out)) hb); have n2_ := Aside0.mk (KeepBut.trans (by repeat (first | (with_reducible first | exact HK.out | apply KeepBut.set_ | apply keep_drewN | apply keep_drew | apply keep_alloc) | exact HK.out)) (KeepBut.of_below hb g none) (.inl rfl)); have n3_ := Aside0.mk (below_step (by repeat (first | (with_reducible first | exact HB.out | apply below_alloc | apply pw_below_drewN | apply below_drew1 | refine below_set ?_ (IsS67.ge HI0.out)) | exact HB.out)) hb); clear HI0; clear HK; clear HB; have HO181 := n0_; have HI0 := n1_; have HK := n2_; have HB := n3_; clear n0_ n1_ n2_ n3_; clear hb ho4; obtain ⟨Ao5, co5, eo5⟩ := Kd.R_slice HO181.out; subst eo5) | ((with_reducible refine gate_callee (f := 34) rfl ?_); refine goesL_ (some 5) rfl rfl Try.func34 (by kernel_rfl) rfl #[.pointer (some ⟨g, 0, none⟩), .slice Ao5 y179.length co5] rfl gZ ?_; (with_reducible refine (spec_l00Src_text.calls g s0_0 s0_1 s0_2 _ _ y179 t182 t183 t184 w0 _ ?side1 ?side2 ?side3 ?side4 ?side5 A2.out).mono ?_); (case side1 => repeat (first | (with_reducible first | exact HI0.out | apply IsS67.alloc | apply IsS67.drewN | apply IsS67.drew | apply IsS67.set_1 | apply IsS67.set_2) | exact HI0.out)); (case side2 => repeat (first | (with_reducible first | exact HB.out | apply below_alloc | apply pw_below_drewN | apply below_drew1 | refine below_set ?_ (IsS67.ge HI0.out)) | exact HB.out)); (case side3 => exact Kd.cZ HO181.out); (case side4 => exact (Kd.R_reads' HO181.out).2.1); (case side5 => exact far_slice (IsS67.own_ne HI0.out HO181.out (by decide))); rintro e w6 ⟨rfl, hi, hb, hk⟩; refine ⟨_, rfl, ?_⟩; have n0_ := Aside0.mk (Kd.R_mono (Kd.R_keep (IsS67.apart (show IsS67 w0 _ g s0_0 s0_1 s0_2 from by repeat (first | (with_reducible first | exact HI0.out | apply IsS67.alloc | apply IsS67.drewN | apply IsS67.drew | apply IsS67.set_1 | apply IsS67.set_2) | exact HI0.out)) (Kd.rZ HO181.out) (by decide)) hk (fun _ h => h.2)) (fun _ h => h.1)); have n1_ := Aside0.mk (KeepBut.trans (by repeat (first | (with_reducible first | exact HK.out | apply KeepBut.set_ | apply keep_drewN | apply keep_drew | apply keep_alloc) | exact HK.out)) hk (.inl rfl)); have n2_ := Aside0.mk (hb); have n3_ := Aside0.mk (hi); clear HO181; clear HK; clear HB; clear HI0; have HO181 := n0_; have HK := n1_; have HB := n2_; have HI0 := n3_; clear n0_ n1_ n2_ n3_; (try clear hb); (try clear hb2); (try clear hk); (try clear hi)))
 go_ret
 exact ⟨eZ, by repeat (first | (with_reducible first | exact HI0.out | apply IsS67.alloc | apply IsS67.drewN | apply IsS67.drew | apply IsS67.set_1 | apply IsS67.set_2) | exact HI0.out), by repeat (first | (with_reducible first | exact HB.out | apply below_alloc | apply pw_below_drewN | apply below_drew1 | refine below_set ?_ (IsS67.ge HI0.out)) | exact HB.out), by repeat (first | (with_reducible first | exact HK.out | apply KeepBut.set_ | apply keep_drewN | apply keep_drew | apply keep_alloc) | exact HK.out)⟩
end Go.Proofs.Ytpkcjkfkohmcfaa.XN
end
