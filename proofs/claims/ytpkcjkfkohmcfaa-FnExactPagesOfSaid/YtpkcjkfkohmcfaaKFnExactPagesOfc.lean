/- The law FnExactPagesOf: part 2 of its texts, joined (wip/pack.py). -/
import Derived.Test.YtpkcjkfkohmcfaaKFnExactPagesOfa
import Derived.Test.YtpkcjkfkohmcfaaKFnExactPagesOfb
import Derived.RangeFuncBox
import Derived.RangeFuncLeaves
import Derived.RangeFuncCalls
import Derived.Orders
import Derived.Shelf.Abstract
import Derived.OwnWalkIn
import Derived.TacticsInMore
import Derived.LoopNIn
import Derived.LoopIn
import Derived.WalkKit
import Derived.Test.YtpkcjkfkohmcfaaProg
import Derived.Deep.Slices
import Derived.SizedLaws
import Derived.ChangeArms
import Derived.WideShapes

section
namespace Go.Proofs.Ytpkcjkfkohmcfaa.XN
open Go.RowKit Go.Proofs.YtpkcjkfkohmcfaaW.PrintWords Go.Proofs.YtpkcjkfkohmcfaaW.PrintLast Go.Proofs.YtpkcjkfkohmcfaaW.PrintMore
attribute [local go_sem] run_eql_slice_nil binOp_string_gtr' binOp_string_leq' binOp_string_geq' max2_int min2_int max_two min_two max_three min_three max_four min_four   -- for this text's walks alone
set_option linter.unusedVariables false
set_option linter.unusedSimpArgs false
def impl_bytesWithin.l0 : Nat → ByteArray → Int → Int → Int → Int → Option (Bool)
 | 0, _, _, _, _, _ => none
 | k + 1, x0, x1, x2, x9, x10 => if x10 < x9 then (if 0 ≤ x10 then (if x10 < (x0.size : Int) then (if (bt x0 x10) < x1 then (some false) else (if (bt x0 x10) > x2 then (some false) else (impl_bytesWithin.l0 k x0 x1 x2 x9 (wrap64 (x10 + 1))))) else (none)) else (none)) else (some true)
def impl_bytesWithin.f (k : Nat) (a0 : ByteArray) (a1 : Int) (a2 : Int) : Option (Bool) := impl_bytesWithin.l0 k a0 a1 a2 (a0.size : Int) 0
set_option maxHeartbeats 8000000 in
set_option maxRecDepth 100000 in
theorem impl_bytesWithin.calls (k : Nat) (a0 : ByteArray) (a1 : Int) (a2 : Int) (r : Bool) (w : World) (h : impl_bytesWithin.f k a0 a1 a2 = some r) :
  Calls Try.prog 40 #[.string a0, .int .u8 a1, .int .u8 a2] w fun e w' => e = .returned (.bool r) ∧ Drawn0 w w' := by
 have H : (impl_bytesWithin.l0 k a0 a1 a2 (a0.size : Int) 0) = some r := h
 clear h
 have H' := Aside0.mk H
 clear H
 go_enter Try.func40, Try.ntmps40
 go_wp2
 go_loopg [10] k (fun kq v10 w' => ∃ (x10_1 : Int), v10 = .int .i64 x10_1 ∧ Aside0 (impl_bytesWithin.l0 kq a0 a1 a2 (a0.size : Int) x10_1 = some r) ∧ Aside0 (kq ≤ k) ∧ Drawn0 w w')
 case atStart => exact ⟨(0), sZ, H', ⟨Nat.le_refl _⟩, dZ⟩
 case round =>
  clear H'; (try clear p2)
  obtain ⟨x10_1, rfl, HA, HK1, ⟨m1, rfl⟩⟩ := hrel
  cases gk with
  | zero => exact absurd HA.out (by simp [impl_bytesWithin.l0])
  | succ k1 =>
   have H := HA.out
   clear HA
   simp only [impl_bytesWithin.l0] at H
   by_cases c4 : x10_1 < (a0.size : Int)
   ·rw [if_pos c4] at H
    have c4b0 : decide (x10_1 < (a0.size : Int)) = true := decide_eq_true c4
    clear c4
    by_cases c5 : 0 ≤ x10_1
    ·rw [if_pos c5] at H
     have c5b0 : decide (0 ≤ x10_1) = true := decide_eq_true c5
     clear c5
     by_cases c6 : x10_1 < (a0.size : Int)
     ·rw [if_pos c6] at H
      have c6b0 : decide (x10_1 < (a0.size : Int)) = true := decide_eq_true c6
      clear c6
      by_cases c8 : (bt a0 x10_1) < a1
      ·rw [if_pos c8] at H
       have c8b0 : decide ((bt a0 x10_1) < a1) = true := decide_eq_true c8
       clear c8
       obtain rfl := Option.some.inj H
       have p7 : 0 ≤ (x10_1 : Int) := oZ
       have q7 : x10_1 < (a0.size : Int) := oZ
       have hx7 := bt_at a0 x10_1
       replace p7 := eq_true p7
       replace q7 := eq_true q7
       go_wp2
       go_ret
       exact ⟨sZ, dZ⟩
      ·rw [if_neg c8] at H
       have c8b0 : decide ((bt a0 x10_1) < a1) = false := decide_eq_false c8
       clear c8
       by_cases c10 : (bt a0 x10_1) > a2
       ·rw [if_pos c10] at H
        have c10b0 : decide (a2 < (bt a0 x10_1)) = true := decide_eq_true c10
        clear c10
        obtain rfl := Option.some.inj H
        have p7 : 0 ≤ (x10_1 : Int) := oZ
        have q7 : x10_1 < (a0.size : Int) := oZ
        have hx7 := bt_at a0 x10_1
        replace p7 := eq_true p7
        replace q7 := eq_true q7
        have p9 : 0 ≤ (x10_1 : Int) := oZ
        have q9 : x10_1 < (a0.size : Int) := oZ
        have hx9 := bt_at a0 x10_1
        replace p9 := eq_true p9
        replace q9 := eq_true q9
        go_wp2
        go_ret
        exact ⟨sZ, dZ⟩
       ·rw [if_neg c10] at H
        have c10b0 : decide (a2 < (bt a0 x10_1)) = false := decide_eq_false c10
        clear c10
        have H' := Aside0.mk H
        clear H
        have p7 : 0 ≤ (x10_1 : Int) := oZ
        have q7 : x10_1 < (a0.size : Int) := oZ
        have hx7 := bt_at a0 x10_1
        replace p7 := eq_true p7
        replace q7 := eq_true q7
        have p9 : 0 ≤ (x10_1 : Int) := oZ
        have q9 : x10_1 < (a0.size : Int) := oZ
        have hx9 := bt_at a0 x10_1
        replace p9 := eq_true p9
        replace q9 := eq_true q9
        go_wp2
        go_roundg k1
        case measure => have := HK1.out; omega
        case rel => exact ⟨(wrap64 (x10_1 + 1)), sZ, H', ⟨by have := HK1.out; omega⟩, dZ⟩
     ·rw [if_neg c6] at H
      exact absurd H (by simp)
    ·rw [if_neg c5] at H
     exact absurd H (by simp)
   ·rw [if_neg c4] at H
    have c4b0 : decide (x10_1 < (a0.size : Int)) = false := decide_eq_false c4
    clear c4
    obtain rfl := Option.some.inj H
    go_wp2
    go_ret
    exact ⟨sZ, dZ⟩
def impl_lineValid.f (k : Nat) (a0 : ByteArray) : Option (Bool) := if (a0.size : Int) ≤ 100 then ((impl_bytesWithin.f k a0 32 126).bind fun t146 => (some t146)) else (some false)
set_option maxHeartbeats 8000000 in
set_option maxRecDepth 100000 in
theorem impl_lineValid.calls (k : Nat) (a0 : ByteArray) (r : Bool) (w : World) (h : impl_lineValid.f k a0 = some r) :
  Calls Try.prog 27 #[.string a0] w fun e w' => e = .returned (.bool r) ∧ Drawn0 w w' := by
 have H : (if (a0.size : Int) ≤ 100 then ((impl_bytesWithin.f k a0 32 126).bind fun t146 => (some t146)) else (some false)) = some r := h
 clear h
 by_cases c2 : (a0.size : Int) ≤ 100
 ·rw [if_pos c2] at H
  have c2b0 : decide ((a0.size : Int) ≤ 100) = true := decide_eq_true c2
  have c2b1 : decide (a0.size ≤ 100) = true := decide_eq_true (by omega)
  clear c2
  replace H := Option.bind_eq_some_iff.mp H
  obtain ⟨t146, A30, H⟩ := H
  replace H : (some t146) = some r := H
  have A3 := Aside0.mk A30
  clear A30
  obtain rfl := Option.some.inj H
  go_enter Try.func27, Try.ntmps27
  go_wp2_with (first | (go_at_call 40; (with_reducible refine (impl_bytesWithin.calls k a0 32 126 t146 _ A3.out).mono ?_); rintro e w' ⟨rfl, ⟨nd, rfl⟩⟩))
  go_ret
  exact ⟨sZ, dZ⟩
 ·rw [if_neg c2] at H
  have c2b0 : decide ((a0.size : Int) ≤ 100) = false := decide_eq_false c2
  have c2b1 : decide (a0.size ≤ 100) = false := decide_eq_false (by omega)
  clear c2
  obtain rfl := Option.some.inj H
  go_enter Try.func27, Try.ntmps27
  go_wp2
  go_ret
  exact ⟨sZ, dZ⟩
end Go.Proofs.Ytpkcjkfkohmcfaa.XN
end

section
namespace Go.Proofs.Ytpkcjkfkohmcfaa.XN
open Go.RowKit Go.Proofs.YtpkcjkfkohmcfaaW.PrintWords Go.Proofs.YtpkcjkfkohmcfaaW.PrintLast Go.Proofs.YtpkcjkfkohmcfaaW.PrintMore
attribute [local go_sem] run_eql_slice_nil binOp_string_gtr' binOp_string_leq' binOp_string_geq' max2_int min2_int max_two min_two max_three min_three max_four min_four   -- for this text's walks alone
set_option linter.unusedVariables false
set_option linter.unusedSimpArgs false
def impl_ValidReport.l0 : Nat → List ByteArray → Int → Int → Option (Bool)
 | 0, _, _, _ => none
 | k + 1, x8, x9, x10 => if x10 < x9 then (if 0 ≤ x10 then (if x10 < (x8.length : Int) then ((impl_lineValid.f k (rdOf ByteArray.empty x8 x10)).bind fun t148 => (if t148 = true then (impl_ValidReport.l0 k x8 x9 (wrap64 (x10 + 1))) else (some false))) else (none)) else (none)) else (some true)
def impl_ValidReport.f (k : Nat) (l0 : List ByteArray) : Option (Bool) := if (l0.length : Int) > 200 then (some false) else (impl_ValidReport.l0 k l0 (l0.length : Int) 0)
set_option maxHeartbeats 8000000 in
set_option maxRecDepth 100000 in
theorem impl_ValidReport.calls (k : Nat) (A0 : Option Addr) (c0 : Nat) (l0 : List ByteArray) (r : Bool) (w : World) (hr0 : Kd.C Kd.string w A0 l0.length l0) (hc0 : l0.length ≤ c0) (h : impl_ValidReport.f k l0 = some r) :
  Calls Try.prog 25 #[.slice A0 l0.length c0] w fun e w' => e = .returned (.bool r) ∧ Drawn0 w w' := by
 have HR0 := Aside0.mk hr0
 have HC0 := Aside0.mk hc0
 clear hr0 hc0
 have H : (if (l0.length : Int) > 200 then (some false) else (impl_ValidReport.l0 k l0 (l0.length : Int) 0)) = some r := h
 clear h
 by_cases c2 : (l0.length : Int) > 200
 ·rw [if_pos c2] at H
  have c2b0 : decide (200 < (l0.length : Int)) = true := decide_eq_true c2
  have c2b1 : decide (200 < l0.length) = true := decide_eq_true (by omega)
  clear c2
  obtain rfl := Option.some.inj H
  go_enter Try.func25, Try.ntmps25
  go_wp2
  go_ret
  exact ⟨sZ, dZ⟩
 ·rw [if_neg c2] at H
  have c2b0 : decide (200 < (l0.length : Int)) = false := decide_eq_false c2
  have c2b1 : decide (200 < l0.length) = false := decide_eq_false (by omega)
  clear c2
  have H' := Aside0.mk H
  clear H
  go_enter Try.func25, Try.ntmps25
  go_wp2
  go_loopg [10] k (fun kq v10 w' => ∃ (x10_1 : Int), v10 = .int .i64 x10_1 ∧ Aside0 (impl_ValidReport.l0 kq l0 (l0.length : Int) x10_1 = some r) ∧ Aside0 (kq ≤ k) ∧ Drawn0 w w')
  case atStart => exact ⟨(0), sZ, H', ⟨Nat.le_refl _⟩, dZ⟩
  case round =>
   clear H'; (try clear c2); (try clear c2b0); (try clear c2b1); (try clear p2)
   obtain ⟨x10_1, rfl, HA, HK1, ⟨m1, rfl⟩⟩ := hrel
   cases gk with
   | zero => exact absurd HA.out (by simp [impl_ValidReport.l0])
   | succ k1 =>
    have H := HA.out
    clear HA
    simp only [impl_ValidReport.l0] at H
    by_cases c3 : x10_1 < (l0.length : Int)
    ·rw [if_pos c3] at H
     have c3b0 : decide (x10_1 < (l0.length : Int)) = true := decide_eq_true c3
     clear c3
     by_cases c4 : 0 ≤ x10_1
     ·rw [if_pos c4] at H
      have c4b0 : decide (0 ≤ x10_1) = true := decide_eq_true c4
      clear c4
      by_cases c5 : x10_1 < (l0.length : Int)
      ·rw [if_pos c5] at H
       have c5b0 : decide (x10_1 < (l0.length : Int)) = true := decide_eq_true c5
       clear c5
       replace H := Option.bind_eq_some_iff.mp H
       obtain ⟨t148, A60, H⟩ := H
       replace H : (if t148 = true then (impl_ValidReport.l0 k1 l0 (l0.length : Int) (wrap64 (x10_1 + 1))) else (some false)) = some r := H
       have A6 := Aside0.mk A60
       clear A60
       by_cases c7 : t148 = true
       ·subst c7
        have H1 : (impl_ValidReport.l0 k1 l0 (l0.length : Int) (wrap64 (x10_1 + 1))) = some r := by rw [if_pos rfl] at H; exact H
        clear H
        have H := H1
        clear H1
        have H' := Aside0.mk H
        clear H
        have p147 : 0 ≤ (x10_1 : Int) := oZ
        have q147 : x10_1 < (l0.length : Int) := oZ
        obtain ⟨ad147, e147, hx147_0⟩ := Kd.at_string HR0.out x10_1 p147 q147
        cases e147
        replace p147 := eq_true p147
        replace q147 := eq_true q147
        go_wp2_with (first | ((with_reducible refine gate_callee (f := 27) rfl ?_); refine goesL_ (some 15) rfl rfl Try.func27 (by kernel_rfl) rfl #[.string (rdOf ByteArray.empty l0 x10_1)] rfl gZ ?_; (with_reducible refine (impl_lineValid.calls k1 (rdOf ByteArray.empty l0 x10_1) true _ A6.out).mono ?_); rintro e w' ⟨rfl, ⟨nd, rfl⟩⟩; refine ⟨_, rfl, ?_⟩))
        go_roundg k1
        case measure => have := HK1.out; omega
        case rel => exact ⟨(wrap64 (x10_1 + 1)), sZ, H', ⟨by have := HK1.out; omega⟩, dZ⟩
       ·replace c7 := Bool.eq_false_iff.mpr c7
        subst c7
        have H1 : (some false) = some r := by rw [if_neg (show ¬ (false = true) by decide)] at H; exact H
        clear H
        have H := H1
        clear H1
        obtain rfl := Option.some.inj H
        have p147 : 0 ≤ (x10_1 : Int) := oZ
        have q147 : x10_1 < (l0.length : Int) := oZ
        obtain ⟨ad147, e147, hx147_0⟩ := Kd.at_string HR0.out x10_1 p147 q147
        cases e147
        replace p147 := eq_true p147
        replace q147 := eq_true q147
        go_wp2_with (first | ((with_reducible refine gate_callee (f := 27) rfl ?_); refine goesL_ (some 15) rfl rfl Try.func27 (by kernel_rfl) rfl #[.string (rdOf ByteArray.empty l0 x10_1)] rfl gZ ?_; (with_reducible refine (impl_lineValid.calls k1 (rdOf ByteArray.empty l0 x10_1) false _ A6.out).mono ?_); rintro e w' ⟨rfl, ⟨nd, rfl⟩⟩; refine ⟨_, rfl, ?_⟩))
        go_ret
        exact ⟨sZ, dZ⟩
      ·rw [if_neg c5] at H
       exact absurd H (by simp)
     ·rw [if_neg c4] at H
      exact absurd H (by simp)
    ·rw [if_neg c3] at H
     have c3b0 : decide (x10_1 < (l0.length : Int)) = false := decide_eq_false c3
     clear c3
     obtain rfl := Option.some.inj H
     go_wp2
     go_ret
     exact ⟨sZ, dZ⟩
def impl_within.f (a0 : Int) (a1 : Int) (a2 : Int) : Option (Bool) := if a0 ≥ a1 then (some (decide (a0 ≤ a2))) else (some false)
set_option maxHeartbeats 8000000 in
set_option maxRecDepth 100000 in
theorem impl_within.calls (a0 : Int) (a1 : Int) (a2 : Int) (r : Bool) (w : World) (h : impl_within.f a0 a1 a2 = some r) :
  Calls Try.prog 26 #[.int .i64 a0, .int .i64 a1, .int .i64 a2] w fun e w' => e = .returned (.bool r) ∧ Drawn0 w w' := by
 have H : (if a0 ≥ a1 then (some (decide (a0 ≤ a2))) else (some false)) = some r := h
 clear h
 by_cases c4 : a0 ≥ a1
 ·rw [if_pos c4] at H
  have c4b0 : decide (a1 ≤ a0) = true := decide_eq_true c4
  clear c4
  obtain rfl := Option.some.inj H
  go_enter Try.func26, Try.ntmps26
  go_wp2
  go_ret
  exact ⟨sZ, dZ⟩
 ·rw [if_neg c4] at H
  have c4b0 : decide (a1 ≤ a0) = false := decide_eq_false c4
  clear c4
  obtain rfl := Option.some.inj H
  go_enter Try.func26, Try.ntmps26
  go_wp2
  go_ret
  exact ⟨sZ, dZ⟩
end Go.Proofs.Ytpkcjkfkohmcfaa.XN
end

section
namespace Go.Proofs.Ytpkcjkfkohmcfaa.RoundW
open Go.RowKit Go.Proofs.YtpkcjkfkohmcfaaW.PrintWords Go.Proofs.YtpkcjkfkohmcfaaW.PrintLast
variable {P : Program} {Q : Exit → Act → World → Prop} {l n : Nat}
theorem upon_mono {o : Oper} {a : Act} {next next' : Act → World → Prop} (hn : ∀ a w, next a w → next' a w) (r : Result Next) (h : o.upon P a next Q r) : o.upon P a next' Q r := by
  cases r with
  | ok nx w =>
    cases nx with
    | value v => exact hn _ _ h
    | skip => exact hn _ _ h
    | defer d => exact hn _ _ h
    | enter f args =>
      refine Calls.mono h (fun e w' he => ?_)
      cases e with
      | returned v => exact hn _ _ he
      | panicked c => exact he
      | outgrown => exact he
    | row row args => exact Rows.mono h (fun v w' he => hn _ _ he)
    | _ => exact h.elim
  | halt hl w =>
    cases hl with
    | panic v => exact h
    | _ => exact h.elim
theorem uponIn_of {o : Oper} {a : Act} {next : Act → World → Prop} (r : Result Next) (h : o.upon P a next Q r) : o.uponIn (Fence.wide.inRound l) n P a next Q r := by
  cases r with
  | ok nx w =>
    cases nx with
    | value v => exact h
    | skip => exact h
    | defer d => exact h
    | enter f args => exact ⟨fun hd => by simp [Fence.wide] at hd, CallsIn.inRound l (callsIn_wide.2 h)⟩
    | row row args => exact ⟨fun hd => by simp [Fence.wide] at hd, fun c cs _ => let ⟨v, w', r, s⟩ := h c cs; ⟨v, w', r, stepsIn_wide.2 s⟩⟩
    | _ => exact h.elim
  | halt hl w =>
    cases hl with
    | panic v => exact h
    | _ => exact h.elim
theorem wpOpsIn_of {ops : Array Oper} (hQ : ¬ LetsOut Q) (hd : ∀ (i : Nat) (o : Oper), ops[i]? = some o → ∀ c, o.op ≠ .defer c) : ∀ (is : List Nat) (a : Act) (w : World), wpOps P ops Q is a w → wpOpsIn (Fence.wide.inRound l) n P ops Q is a w
  | [], a, w, h => h
  | i :: rest, a, w, h => by
    unfold wpOpsIn
    unfold wpOps at h
    cases ho : ops[i]? with
    | none =>
      rw [ho] at h
      exact wpOpsIn_of hQ hd rest a w h
    | some o =>
      rw [ho] at h
      simp only at h ⊢
      by_cases hw : Region.wanted o (yielded ops a.tmps) = true
      · rw [if_pos hw] at h ⊢
        refine ⟨fun _ _ => trivial, ?_⟩
        rw [Oper.semAt_eq _ _ _ (hd i o ho)]
        rcases h with h | h
        · exact uponIn_of _ (upon_mono (fun a' w' h' => wpOpsIn_of hQ hd rest a' w' h') _ h)
        · exact absurd h.2 hQ
      · rw [if_neg hw] at h ⊢
        exact ⟨fun _ _ => trivial, wpOpsIn_of hQ hd rest _ w h⟩
def noDefer (ops : Array Oper) : Bool := ops.toList.all fun o => match o.op with | .defer _ => false | _ => true
theorem noDefer_at {ops : Array Oper} (h : noDefer ops = true) (i : Nat) (o : Oper) (ho : ops[i]? = some o) (c : Call) : o.op ≠ .defer c := by
  intro e
  have hm : o ∈ ops.toList := by
    rw [← Array.getElem?_toList] at ho
    exact List.mem_of_getElem? ho
  have := List.all_eq_true.1 h o hm
  simp [e] at this
theorem start_in {ops : Array Oper} {S : World → Prop} {ds : List Nat} {id m : Nat} {a : Act} {w : World} (lb : Array Bool) (hQ : ¬ LetsOut Q) (hm : P.follows .mixedOrders = true) (hnd : noDefer ops = true) (hn : ops.size = m) (hl : Array.replicate m false = lb) (hS : S w.drew)
    (h : S w.drew → wpAnyLast P .any ops Q S ds m lb a w.drew) : (Code.region id ops true).wpIn (Fence.wide.inRound l) n P Q a w := by
  subst hn
  subst hl
  refine wpIn_region_draw fun t => wpOpsIn_of hQ (noDefer_at hnd) _ _ _ ?_
  simp only [Region.schedule, hm, Bool.true_or, if_true]
  exact wpAny_sound ops.size t _ a _ (wpAny_of_last _ _ _ _ (h hS))
end Go.Proofs.Ytpkcjkfkohmcfaa.RoundW
end

section
namespace Go.Proofs.Ytpkcjkfkohmcfaa.ChunkS
set_option linter.unusedSimpArgs false
set_option linter.unusedVariables false
open Go.RowKit Go.Proofs.YtpkcjkfkohmcfaaW.PrintWords Go.Proofs.YtpkcjkfkohmcfaaW.PrintLast Go.Proofs.YtpkcjkfkohmcfaaW.PrintMore
attribute [local go_sem] min2_int max2_int min_two max_two
def Kp (Bs Bn : Nat) (X Y : World) : Prop := Y.cell? ⟨Bs, 0, none⟩ = X.cell? ⟨Bs, 0, none⟩ ∧ Y.cell? ⟨Bn, 0, none⟩ = X.cell? ⟨Bn, 0, none⟩
theorem Kp.tr {Bs Bn : Nat} {X Y Z : World} (h : Kp Bs Bn X Y) (k : Kp Bs Bn Y Z) : Kp Bs Bn X Z := ⟨k.1.trans h.1, k.2.trans h.2⟩
theorem Kp.put {Bs Bn : Nat} {w : World} (h1 : Bs < w.heap.size) (h2 : Bn < w.heap.size) (W : World) (l : Nat) (o o' : Obj) (hl : w.heap.size ≤ l) (_ : W.heap[l]? = some o) (_ : o.isCells = false) (_ : o.isWalk = false) : Kp Bs Bn W (W.putObj l o') :=
  ⟨World.cell?_of_block (World.putObj_heap_other (by show Bs ≠ l; omega)), World.cell?_of_block (World.putObj_heap_other (by show Bn ≠ l; omega))⟩
def off (len c j : Nat) : Nat := min (j * c) len
def cnt (len c j : Nat) : Nat := min c (len - off len c j)
def enc (ad : Addr) (len c j : Nat) : Array Value := #[.slice (some (ad.add (off len c j))) (cnt len c j) (cnt len c j)]
def Ends (len c : Nat) (ys : List Nat) : Prop := ∃ q, ys = List.range q ∧ len ≤ q * c ∧ q * c < len + c
theorem infoS : (Try.prog.info? 9).map (fun i => (i.zero, i.size, i.bytes)) = some (some (.string ⟨#[]⟩), 1, 16) := by kernel_rfl
theorem elemS : Try.prog.elem 22 = 9 := by simp [Program.elem, Try.underlying22]
theorem cut_lo (ad : Addr) (len cap k : Nat) (W : World) (hk : k < len) (hc : len ≤ cap) :
    (Instr.slice 22 (.slice (some ad) len cap) (some (.int .i64 (k : Int))) none none).run Try.prog W = .ok (.slice (some (ad.add k)) (len - k) (cap - k)) W := by
  obtain ⟨i0, hi, hz0, hz1, hz2⟩ := info_parts infoS
  have := cut_from (P := Try.prog) 22 9 .i64 Try.underlying22 hi 1 hz1 (some ad) len cap (k : Int) (by omega) (by omega) W
  rw [this]
  simp only [Int.toNat_natCast, if_neg (show ¬ cap = k by omega), Option.map_some, Nat.mul_one]
theorem cut_all (ad : Addr) (len cap k m : Nat) (W : World) (hm : 0 < m) (hk : k + m ≤ len) (hc : len ≤ cap) :
    (Instr.slice 22 (.slice (some ad) len cap) (some (.int .i64 (k : Int))) (some (.int .i64 ((k : Int) + m))) (some (.int .i64 ((k : Int) + m)))).run Try.prog W = .ok (.slice (some (ad.add k)) m m) W := by
  obtain ⟨i0, hi, hz0, hz1, hz2⟩ := info_parts infoS
  have hu : Try.prog.underlying 22 = some (.slice (Try.prog.elem 22)) := by rw [elemS]; exact Try.underlying22
  rw [run_slice_lhm W 22 (some ad) len cap hu .i64 .i64 .i64 k (k + m) (k + m) (by omega) (by omega) (by omega) (by omega), elemS]
  have hsize : (sizeOf 9).run Try.prog W = .ok 1 W := by simp [sizeOf, typeInfo, hi, hz1]
  rw [hsize]
  simp only [Result.andThen_ok, sliced, Int.toNat_natCast, show ((k : Int) + (m : Int)).toNat = k + m by omega, if_neg (show ¬ (k + m = k) by omega), Option.map_some, Nat.mul_one, show k + m - k = m by omega]
def T3 : Bool × List (List Nat × List Nat) := (true, [([], []), ([], []), ([], []), ([1, 2], [1, 2]), ([3], [3]), ([0, 4], [0, 4]), ([5, 0, 1, 2, 3, 4, 5], [5])])
def B3 : List Nat := [0, 0, 0, 6, 14, 31, 63]
theorem tab3 : rtab .any (opsOf Try.f41 3) = T3 := by kernel_rfl
theorem bits3 : waitsOk T3.2 B3 = true := by kernel_rfl
set_option maxRecDepth 100000 in
set_option maxHeartbeats 4000000 in
theorem chunk1_in (n : Nat) (hn : 1 ≤ n) (l Bs Bn : Nat) (ad : Addr) (len cap c : Nat) (hlen : len ≤ 1000000) (hcap : len ≤ cap) (hc0 : 0 < c) (hc1 : c ≤ 1000000) (J Jx : List Nat → World → Prop)
    (hJd : ∀ s W, J s W → J s W.drew)
    (hY : ∀ pre x W, J pre W → pre.length < len → YieldAt Fence.wide (n - 1) Try.prog l (enc ad len c x) W fun e W' =>
      (e = .returned (.bool true) ∧ J (pre ++ [x]) W' ∧ Kp Bs Bn W W') ∨ (e = .returned (.bool false) ∧ Jx (pre ++ [x]) W'))
    (W : World) (hBs : W.cell? ⟨Bs, 0, none⟩ = some (.slice (some ad) len cap)) (hBn : W.cell? ⟨Bn, 0, none⟩ = some (.int .i64 (c : Int))) (h0 : J [] W) :
    CallsIn Fence.wide n Try.prog 41 #[.func (.yield l) #[] #[], .pointer (some ⟨Bs, 0, none⟩), .pointer (some ⟨Bn, 0, none⟩)] W fun e W' => (∃ v, e = .returned v) ∧
      ((∃ ys, Ends len c ys ∧ J ys W') ∨ (∃ pre, True ∧ Jx pre W')) := by
  refine callsIn_of_wp Try.func41 rfl trivial ?_ rfl
  simp only [Try.ntmps41, List.size_toArray, List.length_cons, List.length_nil, Nat.reduceAdd, Nat.reduceSub, Array.replicate_succ, Array.replicate_zero, List.push_toArray, List.append_toArray, List.nil_append, List.cons_append]
  gi_wp2
  gi_loopw [4] (fun i wr => ∃ k : Nat, (k = 0 ∨ (k - 1) * c < len) ∧ i = .int .i64 ((k * c : Nat) : Int) ∧ J (List.range k) wr ∧ Kp Bs Bn W wr)
    (fun i _ => len + c - (intOf i).toNat)
  case atStart => exact ⟨0, .inl rfl, by simp, h0, rfl, rfl⟩
  case round =>
    obtain ⟨k, hk, rfl, hJs, hnx⟩ := hrel
    have hs1 : wr.cell? ⟨Bs, 0, none⟩ = some (.slice (some ad) len cap) := hnx.1.trans hBs
    have hs2 : wr.cell? ⟨Bn, 0, none⟩ = some (.int .i64 (c : Int)) := hnx.2.trans hBn
    have hkc : k * c < len + c := by
      rcases hk with rfl | hk
      · omega
      · cases k with
        | zero => omega
        | succ k => rw [Nat.add_sub_cancel] at hk; rw [Nat.succ_mul]; omega
    by_cases hlt : k * c < len
    · have hkl : k < len := by
        have : k * 1 ≤ k * c := Nat.mul_le_mul_left _ hc0
        omega
      have hoff : off len c k = k * c := by unfold off; omega
      obtain ⟨m, hm⟩ : ∃ m, m = cnt len c k := ⟨_, rfl⟩
      have hm2 : m = min c (len - k * c) := by rw [hm]; unfold cnt; rw [hoff]
      have hm0 : 0 < m := by omega
      have hml : k * c + m ≤ len := by omega
      obtain ⟨fn, tmps, assign, body, hy, hR⟩ := hY _ k wr.drew (hJd _ _ hJs) (by rw [List.length_range]; exact hkl)
      have henc : enc ad len c k = #[.slice (some (ad.add (k * c))) m m] := by unfold enc; rw [hoff, ← hm]
      rw [henc] at hy
      obtain ⟨kc, hkcq⟩ : ∃ kc, kc = k * c := ⟨_, rfl⟩
      rw [← hkcq] at hml hlt hkc hm2 hy ⊢
      have HKC := Aside0.mk hkcq
      have HM := Aside0.mk hm2
      have z1 := fun W' => cut_lo ad len cap kc W' hlt hcap
      have z2 := fun W' => cut_all ad len cap kc m W' hm0 hml hcap
      have z3 : ∀ i : Decidable (len - kc < c), (@ite Int (len - kc < c) i ((len - kc : Nat) : Int) (c : Int)) = (m : Int) := by intro i; split <;> omega
      have HH := Aside0.mk (And.intro hk hkc)
      clear hkcq hm hm2 hoff henc hk hkc hkl
      gi_wp2
      rename_i K1 hK1 K2 hK2
      refine wpIn_wide.2 ?_
      refine start_ (n := 7) (S := fun w' => w'.cell? ⟨Bn, 0, none⟩ = some (.int .i64 (c : Int)) ∧ w'.cell? ⟨Bs, 0, none⟩ = some (.slice (some ad) len cap)) (ds := []) #[false, false, false, false, false, false, false] (by kernel_rfl) rfl rfl ⟨hs2, hs1⟩ (fun hHeld => ?_)
      refine with_tabW tab3 bits3 (fun HT_ HW_ => ?_)
      refine take_ (i := 0) (N := some 13) (v := ?_) (a' := ?_) #[true, false, false, false, false, false, false] rfl rfl (take_ofW HT_.out HW_.out (by kernel_rfl)) (fun _ _ _ h => h) (Or.inl ⟨by rfl, ?_⟩) hHeld ?_ ?_
      rotate_left
      · rintro w' ⟨s0, s1⟩
        go_simp
        with_reducible rfl
      rotate_left
      · simp only [Act.put, List.setIfInBounds_toArray, List.set_cons_zero, List.set_cons_succ, i64_w, i32_w]
        rfl
      refine take_ (i := 1) (N := some 14) (v := ?_) (a' := ?_) #[true, true, false, false, false, false, false] rfl rfl (take_ofW HT_.out HW_.out (by kernel_rfl)) (fun _ _ _ h => h) (Or.inl ⟨by rfl, ?_⟩) hHeld ?_ ?_
      rotate_left
      · rintro w' ⟨s0, s1⟩
        go_simp
        with_reducible rfl
      rotate_left
      · simp only [Act.put, List.setIfInBounds_toArray, List.set_cons_zero, List.set_cons_succ, i64_w, i32_w]
        rfl
      refine pure_ (i := 2) (N := some 15) (v := ?_) (a' := ?_) #[true, true, true, false, false, false, false] rfl rfl (any_of HT_.out (by kernel_rfl)) (fun _ _ _ h => h) (Or.inl ⟨by rfl, ?_⟩) ?_ ?_
      rotate_left
      · intro w'
        go_simp
        with_reducible rfl
      rotate_left
      · simp only [Act.put, List.setIfInBounds_toArray, List.set_cons_zero, List.set_cons_succ, i64_w, i32_w]
        rfl
      refine pure_ (i := 3) (N := some 16) (v := ?_) (a' := ?_) #[true, true, true, true, false, false, false] rfl rfl (any_of HT_.out (by kernel_rfl)) (fun _ _ _ h => h) (Or.inl ⟨by rfl, ?_⟩) ?_ ?_
      rotate_left
      · intro w'
        go_simp
        with_reducible rfl
      rotate_left
      · simp only [Act.put, List.setIfInBounds_toArray, List.set_cons_zero, List.set_cons_succ, i64_w, i32_w]
        rfl
      refine pure_ (i := 4) (N := some 17) (v := ?_) (a' := ?_) #[true, true, true, true, true, false, false] rfl rfl (any_of HT_.out (by kernel_rfl)) (fun _ _ _ h => h) (Or.inl ⟨by rfl, ?_⟩) ?_ ?_
      rotate_left
      · intro w'
        go_simp
        with_reducible rfl
      rotate_left
      · simp only [Act.put, List.setIfInBounds_toArray, List.set_cons_zero, List.set_cons_succ, i64_w, i32_w]
        rfl
      refine pure_ (i := 5) (N := some 18) (v := ?_) (a' := ?_) #[true, true, true, true, true, true, false] rfl rfl (any_of HT_.out (by kernel_rfl)) (fun _ _ _ h => h) (Or.inl ⟨by rfl, ?_⟩) ?_ ?_
      rotate_left
      · intro w'
        go_simp
        with_reducible rfl
      rotate_left
      · simp only [Act.put, List.setIfInBounds_toArray, List.set_cons_zero, List.set_cons_succ, i64_w, i32_w]
        rfl
      refine pure_ (i := 6) (N := some 5) (v := ?_) (a' := ?_) #[true, true, true, true, true, true, true] rfl rfl (any_of HT_.out (by kernel_rfl)) (fun _ _ _ h => h) (Or.inl ⟨by rfl, ?_⟩) ?_ ?_
      rotate_left
      · intro w'
        go_simp
        with_reducible rfl
      rotate_left
      · simp only [Act.put, List.setIfInBounds_toArray, List.set_cons_zero, List.set_cons_succ, i64_w, i32_w]
        rfl
      refine done_ (done_of HT_.out (by kernel_rfl)) ?_
      refine hK2 _ _ ?_
      gi_wp2
      refine hR.mono ?_
      rintro e W3 (⟨rfl, hJ3, hk3⟩ | ⟨rfl, hJx3⟩)
      · have hs3 : W3.cell? ⟨Bn, 0, none⟩ = some (.int .i64 (c : Int)) := hk3.2.trans hs2
        clear hR hy
        gi_wp2
        go_roundw
        case rel =>
          refine ⟨k + 1, .inr (by rw [Nat.add_sub_cancel, ← HKC.out]; exact hlt), ?_, by rw [List.range_succ]; exact hJ3, hnx.tr hk3⟩
          have := HKC.out
          rw [Nat.succ_mul, ← this]
          simp
        case measure => simp [intOf]; omega
      · gi_wp2
        refine bodyPost_ret (results_none rfl _ _ _) rfl ?_
        exact ⟨⟨_, rfl⟩, .inr ⟨_, trivial, hJx3⟩⟩
    · gi_wp2
      go_end0
      refine ⟨⟨_, rfl⟩, .inl ⟨_, ⟨k, rfl, by omega, hkc⟩, hJs⟩⟩
set_option maxRecDepth 100000 in
set_option maxHeartbeats 1000000 in
theorem chunk1_nil_in (n : Nat) (l Bs Bn : Nat) (A : Option Addr) (cap c : Nat) (hc0 : 0 < c) (J Jx : List Nat → World → Prop) (W : World) (hBs : W.cell? ⟨Bs, 0, none⟩ = some (.slice A 0 cap)) (h0 : J [] W) :
    CallsIn Fence.wide n Try.prog 41 #[.func (.yield l) #[] #[], .pointer (some ⟨Bs, 0, none⟩), .pointer (some ⟨Bn, 0, none⟩)] W fun e W' => (∃ v, e = .returned v) ∧
      ((∃ ys, Ends 0 c ys ∧ J ys W') ∨ (∃ pre, True ∧ Jx pre W')) := by
  refine callsIn_of_wp Try.func41 rfl trivial ?_ rfl
  simp only [Try.ntmps41, List.size_toArray, List.length_cons, List.length_nil, Nat.reduceAdd, Nat.reduceSub, Array.replicate_succ, Array.replicate_zero, List.push_toArray, List.append_toArray, List.nil_append, List.cons_append]
  gi_wp2
  gi_loopw [4] (fun i wr => i = .int .i64 0 ∧ wr = W) (fun _ _ => 0)
  case atStart => exact ⟨rfl, rfl⟩
  case round =>
    obtain ⟨rfl, rfl⟩ := hrel
    gi_wp2
    go_end0
    exact ⟨⟨_, rfl⟩, .inl ⟨[], ⟨0, rfl, by omega, by omega⟩, h0⟩⟩
theorem stops (n : Nat) (hn : 1 ≤ n) (Bs Bn : Nat) (A : Option Addr) (len cap c : Nat) (hlen : len ≤ 1000000) (hcap : len ≤ cap) (hA : 0 < len → ∃ ad, A = some ad) (hc0 : 0 < c) (hc1 : c ≤ 1000000) (w : World) (hb1 : Bs < w.heap.size) (hb2 : Bn < w.heap.size)
    (hBs : w.cell? ⟨Bs, 0, none⟩ = some (.slice A len cap)) (hBn : w.cell? ⟨Bn, 0, none⟩ = some (.int .i64 (c : Int))) :
    SeqStopsK Fence.wide n Try.prog 41 #[.pointer (some ⟨Bs, 0, none⟩), .pointer (some ⟨Bn, 0, none⟩)] (fun j : Nat => enc (A.getD ⟨0, 0, none⟩) len c j) (Kp Bs Bn) (Ends len c) (fun _ => True) len w := fun l J Jx W hW hJ _ hY h0 => by
  have hs1 := (hW.cell (p := ⟨Bs, 0, none⟩) hb1).trans hBs
  have hs2 := (hW.cell (p := ⟨Bn, 0, none⟩) hb2).trans hBn
  by_cases hl : len = 0
  · subst hl
    exact chunk1_nil_in n l Bs Bn A cap c hc0 J Jx W hs1 h0
  · obtain ⟨ad, rfl⟩ := hA (by omega)
    exact chunk1_in n hn l Bs Bn ad len cap c hlen hcap hc0 hc1 J Jx (fun s W' hs => hJ s W' W'.drew none hs ⟨rfl, rfl, rfl, Nat.le_refl _, fun _ _ _ => rfl⟩ (fun r e => by cases e)) hY W hs1 hs2 h0
theorem chunk_calls (A : Option Addr) (len cap : Nat) (c : Int) (hc : 1 ≤ c) (w : World) :
    Calls Try.prog 28 #[.slice A len cap, .int .i64 c] w fun e w' => e = .returned (.func (.func 41) #[] #[.pointer (some ⟨w.heap.size, 0, none⟩), .pointer (some ⟨w.heap.size + 1, 0, none⟩)]) ∧ w' = (w.alloc (.cells #[.slice A len cap] 22)).alloc (.cells #[.int .i64 c] 3) := by
  go_enter Try.func28, Try.ntmps28
  have hz : ¬ (c < 1) := by omega
  go_wp2
  go_ret
  exact ⟨by simp, rfl⟩
theorem enters : ∀ args w, (callFunc 41 args).run Try.prog w = .ok (.enter 41 args) w := enters_of Try.func41 (by kernel_rfl) rfl
end Go.Proofs.Ytpkcjkfkohmcfaa.ChunkS
end

section
namespace Go.Proofs.Ytpkcjkfkohmcfaa.XN
open Go.RowKit Go.Proofs.YtpkcjkfkohmcfaaW.PrintWords Go.Proofs.YtpkcjkfkohmcfaaW.PrintLast Go.Proofs.YtpkcjkfkohmcfaaW.PrintMore
attribute [local go_sem] run_eql_slice_nil binOp_string_gtr' binOp_string_leq' binOp_string_geq' max2_int min2_int max_two min_two max_three min_three max_four min_four   -- for this text's walks alone
set_option linter.unusedVariables false
set_option linter.unusedSimpArgs false
attribute [local go_sem] Oper.semAt_some
def impl_PagesOf.page (l : List ByteArray) (c : Nat) (hd : ByteArray) (j : Nat) : List ByteArray := hd :: (l.drop (j * c)).take c
def impl_PagesOf.pages (l : List ByteArray) (c : Nat) (hd : ByteArray) : List (List ByteArray) := (List.range ((l.length + (c - 1)) / c)).map (impl_PagesOf.page l c hd)
def impl_PagesOf.f (k : Nat) (l0 : List ByteArray) (a1 : Int) (a2 : ByteArray) : Option (List (List ByteArray) × Int) :=
 (impl_ValidReport.f k l0).bind fun b => if b = true then ((impl_within.f a1 2 200).bind fun c => if c = true then ((impl_lineValid.f k a2).bind fun d => if d = true then (if l0.length ≤ 100000 ∧ 2 ≤ a1 ∧ a1 ≤ 200 then some (impl_PagesOf.pages l0 (a1 - 1).toNat a2, 0) else none) else some ([], 2)) else some ([], 2)) else some ([], 1)
def impl_PagesOf.T8 : Bool × List (List Nat × List Nat) := (true, [([], []), ([], []), ([1], [1]), ([], []), ([2, 3], [2, 3]), ([4], [4]), ([0, 5, 4], [0, 5]), ([6, 6, 0, 1, 2, 3, 4, 5, 6], [6])])
def impl_PagesOf.B8 : List Nat := [0, 0, 2, 0, 14, 30, 63, 127]
theorem impl_PagesOf.tab8 : rtab .any (opsOf Try.f8 8) = impl_PagesOf.T8 := by kernel_rfl
theorem impl_PagesOf.bits8 : waitsOk impl_PagesOf.T8.2 impl_PagesOf.B8 = true := by kernel_rfl
theorem impl_PagesOf.ends {len c : Nat} {ys : List Nat} (hc : 0 < c) (h : Ytpkcjkfkohmcfaa.ChunkS.Ends len c ys) : ys = List.range ((len + (c - 1)) / c) := by
 obtain ⟨q, rfl, h1, h2⟩ := h
 congr 1
 refine (Nat.div_eq_of_lt_le ?_ ?_).symm
 ·omega
 ·rw [Nat.succ_mul]; omega
def impl_PagesOf.Inv (w wb : World) (B8 : Nat) (l : List ByteArray) (c : Nat) (hd : ByteArray) (pre : List Nat) (W : World) : Prop :=
 (∃ v, Boxed W B8 24 v ∧ Kd.S (Kd.slice 9 Kd.string) 22 W wb.heap.size (fun _ => True) v (pre.map (impl_PagesOf.page l c hd))) ∧ Below w.heap.size w W ∧ KeepBut wb W B8 none
theorem impl_PagesOf.own {w wb : World} {B8 : Nat} {l : List ByteArray} {c : Nat} {hd : ByteArray} (hb : w.heap.size ≤ wb.heap.size) (h8 : B8 < wb.heap.size) : OwnFrom wb.heap.size (impl_PagesOf.Inv w wb B8 l c hd) := by
 rintro s X Y row ⟨⟨v, hv, hS⟩, hB, hK⟩ hg hrow
 refine ⟨⟨v, hv.kept hg (fun e => by have := (hrow B8 e.symm).1; omega), ?_⟩, hB.grown hg hB.size (fun j e => by have := (hrow j e).1; omega), ?_⟩
 ·refine Kd.S_mono (Kd.S_grown (Kd.S_bound hS) hg ?_) (fun _ h => trivial)
  rintro k ⟨_, _, _, q, _, cells, hcell⟩ e
  obtain ⟨_, o, ho, hn⟩ := hrow k e.symm
  rw [hcell] at ho
  injection ho with ho
  subst ho
  cases hn
 ·exact ⟨Nat.le_trans hK.1 hg.size, fun i hi hne hr => (hg.block i (Nat.lt_of_lt_of_le hi hK.1) (fun e => by have := (hrow i e.symm).1; omega)).trans (hK.2 i hi hne hr)⟩
theorem impl_PagesOf.boxes (w : World) (nd : Nat) (v5 v8 vs vn : Value) : ∃ wb, ((((w.alloc (.cells #[v5] 9)).drewN nd).alloc (.cells #[v8] 24)).alloc (.cells #[vs] 22)).alloc (.cells #[vn] 3) = wb ∧ wb.heap.size = w.heap.size + 4 ∧ Boxed wb w.heap.size 9 v5 ∧ Boxed wb (w.heap.size + 1) 24 v8 ∧ Boxed wb (w.heap.size + 1 + 1) 22 vs ∧ Boxed wb (w.heap.size + 1 + 1 + 1) 3 vn ∧ Below w.heap.size w wb := by
 refine ⟨_, rfl, by simp [World.drewN], ?_, ?_, ?_, ?_, ?_⟩
 ·refine Boxed.alloc (Boxed.alloc (Boxed.alloc ?_ _) _) _
  exact Boxed.new w 9 v5
 ·refine Boxed.alloc (Boxed.alloc ?_ _) _
  have := Boxed.new ((w.alloc (.cells #[v5] 9)).drewN nd) 24 v8
  rwa [show ((w.alloc (.cells #[v5] 9)).drewN nd).heap.size = w.heap.size + 1 by simp [World.drewN]] at this
 ·refine Boxed.alloc ?_ _
  have := Boxed.new (((w.alloc (.cells #[v5] 9)).drewN nd).alloc (.cells #[v8] 24)) 22 vs
  rwa [show (((w.alloc (.cells #[v5] 9)).drewN nd).alloc (.cells #[v8] 24)).heap.size = w.heap.size + 1 + 1 by simp [World.drewN]] at this
 ·have := Boxed.new ((((w.alloc (.cells #[v5] 9)).drewN nd).alloc (.cells #[v8] 24)).alloc (.cells #[vs] 22)) 3 vn
  rwa [show ((((w.alloc (.cells #[v5] 9)).drewN nd).alloc (.cells #[v8] 24)).alloc (.cells #[vs] 22)).heap.size = w.heap.size + 1 + 1 + 1 by simp [World.drewN]] at this
 ·exact below_alloc (below_alloc (below_alloc (pw_below_drewN (below_alloc (Below.refl _ _) _) _) _) _) _
theorem impl_PagesOf.cut {w W : World} {A0 : Option Addr} {l : List ByteArray} (h : Kd.C Kd.string w A0 l.length l) (hb : Below w.heap.size w W) (c j : Nat) :
  ReadsRow (fun (x : ByteArray) (cs : List Value) => cs = [.string x]) 1 W (some ((A0.getD ⟨0, 0, none⟩).add (Ytpkcjkfkohmcfaa.ChunkS.off l.length c j))) (Ytpkcjkfkohmcfaa.ChunkS.cnt l.length c j) ((l.drop (j * c)).take c) := by
 obtain ⟨h1, h2, h3⟩ := Kd.C_below h hb
 have e1 : (Ytpkcjkfkohmcfaa.ChunkS.off l.length c j) = min (j * c) l.length := rfl
 have e2 : (Ytpkcjkfkohmcfaa.ChunkS.cnt l.length c j) = min c (l.length - min (j * c) l.length) := rfl
 refine ⟨by simp only [List.length_take, List.length_drop, e2]; omega, by rw [e2]; omega, fun hp => ⟨_, rfl, fun i p hi => ?_⟩⟩
 rw [e2] at hp
 obtain ⟨ad, rfl, hc⟩ := h3 (by omega)
 rw [List.getElem?_take] at hi
 split at hi
 ·rw [List.getElem?_drop] at hi
  obtain ⟨cs, hl, hK, hcell⟩ := hc _ p hi
  refine ⟨cs, hl, hK, fun q u hq => ?_⟩
  have := hcell q u hq
  rw [Option.getD_some, add_add, e1, show min (j * c) l.length + (i * 1 + q) = (j * c + i) * Kd.string.sz + q by show _ = (j * c + i) * 1 + q; omega]
  exact this
 ·cases hi
set_option maxHeartbeats 8000000 in
set_option maxRecDepth 100000 in
theorem impl_PagesOf.calls (k : Nat) (A0 : Option Addr) (c0 : Nat) (l0 : List ByteArray) (a1 : Int) (a2 : ByteArray) (r1 : List (List ByteArray)) (r2 : Int) (w : World) (hr0 : Kd.C Kd.string w A0 l0.length l0) (hc0 : l0.length ≤ c0) (h : impl_PagesOf.f k l0 a1 a2 = some (r1, r2)) :
  Calls Try.prog 8 #[.slice A0 l0.length c0, .int .i64 a1, .string a2] w fun e w' => ∃ v0_ : Value, e = .returned (.tuple #[v0_, .int .i64 r2]) ∧ Kd.S (Kd.slice 9 Kd.string) 22 w' w.heap.size (fun _ => True) v0_ r1 ∧ Below w.heap.size w w' := by
 unfold impl_PagesOf.f at h
 obtain ⟨b, hb, h⟩ := Option.bind_eq_some_iff.mp h
 have HV := Aside0.mk hb
 have HR := Aside0.mk hr0
 clear hb hr0
 cases b with
 | false =>
  simp only [Bool.false_eq_true, if_false, Option.some.injEq, Prod.mk.injEq] at h
  obtain ⟨rfl, rfl⟩ := h
  go_enter Try.func8, Try.ntmps8
  go_wp2_with (go_at_call 25; go_loud ((with_reducible refine (impl_ValidReport.calls k A0 c0 l0 false _ ?_ hc0 HV.out).mono ?_); (case refine_1 => exact Kd.C_alloc HR.out _); rintro e w2 ⟨rfl, ⟨nd, rfl⟩⟩))
  go_ret2
  exact ⟨_, rfl, Kd.S_nil _ _ _ _ _, by repeat (first | exact Below.refl _ _ | apply below_alloc | apply pw_below_drewN | apply below_drew1)⟩
 | true =>
  simp only [if_true] at h
  obtain ⟨c, hc, h⟩ := Option.bind_eq_some_iff.mp h
  have HW := Aside0.mk hc
  clear hc
  cases c with
  | false =>
   simp only [Bool.false_eq_true, if_false, Option.some.injEq, Prod.mk.injEq] at h
   obtain ⟨rfl, rfl⟩ := h
   go_enter Try.func8, Try.ntmps8
   go_wp2_with (first
    | (go_at_call 25; go_loud ((with_reducible refine (impl_ValidReport.calls k A0 c0 l0 true _ ?_ hc0 HV.out).mono ?_); (case refine_1 => exact Kd.C_alloc HR.out _); rintro e w2 ⟨rfl, ⟨nd, rfl⟩⟩))
    | (go_at_call 26; go_loud ((with_reducible refine (impl_within.calls a1 2 200 false _ HW.out).mono ?_); rintro e w2 ⟨rfl, ⟨nd2, rfl⟩⟩)))
   go_ret2
   exact ⟨_, rfl, Kd.S_nil _ _ _ _ _, by repeat (first | exact Below.refl _ _ | apply below_alloc | apply pw_below_drewN | apply below_drew1)⟩
  | true =>
   simp only [if_true] at h
   obtain ⟨d, hd, h⟩ := Option.bind_eq_some_iff.mp h
   have HD := Aside0.mk hd
   clear hd
   cases d with
   | false =>
    simp only [Bool.false_eq_true, if_false, Option.some.injEq, Prod.mk.injEq] at h
    obtain ⟨rfl, rfl⟩ := h
    go_enter Try.func8, Try.ntmps8
    go_wp2_with (first
     | (go_at_call 25; go_loud ((with_reducible refine (impl_ValidReport.calls k A0 c0 l0 true _ ?_ hc0 HV.out).mono ?_); (case refine_1 => exact Kd.C_alloc HR.out _); rintro e w2 ⟨rfl, ⟨nd, rfl⟩⟩))
     | (go_at_call 26; go_loud ((with_reducible refine (impl_within.calls a1 2 200 true _ HW.out).mono ?_); rintro e w2 ⟨rfl, ⟨nd2, rfl⟩⟩))
     | (go_at_call 27; go_loud ((with_reducible refine (impl_lineValid.calls k a2 false _ HD.out).mono ?_); rintro e w2 ⟨rfl, ⟨nd3, rfl⟩⟩)))
    go_ret2
    exact ⟨_, rfl, Kd.S_nil _ _ _ _ _, by repeat (first | exact Below.refl _ _ | apply below_alloc | apply pw_below_drewN | apply below_drew1)⟩
   | true =>
    simp only [if_true] at h
    by_cases hl : l0.length ≤ 100000 ∧ 2 ≤ a1 ∧ a1 ≤ 200
    ·rw [if_pos hl] at h
     simp only [Option.some.injEq, Prod.mk.injEq] at h
     obtain ⟨rfl, rfl⟩ := h
     obtain ⟨hl1, hl2, hl3⟩ := hl
     refine (callsIn_wide (n := 6)).1 (callsIn_of_wp_marks Try.func8 rfl trivial ?_ rfl)
     simp only [Try.ntmps8, List.size_toArray, List.length_cons, List.length_nil, Nat.reduceAdd, Nat.reduceSub, Array.replicate_succ, Array.replicate_zero, List.push_toArray, List.append_toArray, List.nil_append, List.cons_append]
     obtain ⟨c, rfl⟩ : ∃ c : Nat, a1 = (c : Int) + 1 := ⟨(a1 - 1).toNat, by omega⟩
     have w1 : wrap64 ((c : Int) + 1 - 1) = (c : Int) := by unfold wrap64; omega
     have g1 : Fence.wide.fn 25 := trivial
     have g2 : Fence.wide.fn 26 := trivial
     have g3 : Fence.wide.fn 27 := trivial
     have g4 : Fence.wide.fn 28 := trivial
     gi_wp2_with (first
      | (gi_at_call 25; go_loud (refine ((callsIn_wide).2 (impl_ValidReport.calls k A0 c0 l0 true _ (Kd.C_alloc HR.out _) hc0 HV.out)).mono ?_; rintro e w2 ⟨rfl, ⟨nd, rfl⟩⟩))
      | (gi_at_call 26; go_loud (refine ((callsIn_wide).2 (impl_within.calls ((c : Int) + 1) 2 200 true _ HW.out)).mono ?_; rintro e w2 ⟨rfl, ⟨nd2, rfl⟩⟩))
      | (gi_at_call 27; go_loud (refine ((callsIn_wide).2 (impl_lineValid.calls k a2 true _ HD.out)).mono ?_; rintro e w2 ⟨rfl, ⟨nd3, rfl⟩⟩))
      | (gi_at_call 28; go_loud (refine ((callsIn_wide).2 (Ytpkcjkfkohmcfaa.ChunkS.chunk_calls A0 l0.length c0 (c : Int) (by omega) _)).mono ?_; rintro e w2 ⟨rfl, rfl⟩)))
     generalize hnn : nd + nd2 + nd3 = nn
     obtain ⟨wb, hwb, hsz, h5, h8, hbs, hbn, hbB⟩ := impl_PagesOf.boxes w nn (.string a2) (.slice none 0 0) (.slice A0 l0.length c0) (.int .i64 (c : Int))
     rw [hwb]
     refine wpIn_rangeFunc_ownG rfl (by omega) (gf := 41) (lb := #[.pointer (some ⟨w.heap.size + 1 + 1, 0, none⟩), .pointer (some ⟨w.heap.size + 1 + 1 + 1, 0, none⟩)]) rfl trivial Ytpkcjkfkohmcfaa.ChunkS.enters
      (Ytpkcjkfkohmcfaa.ChunkS.stops 5 (by omega) (w.heap.size + 1 + 1) (w.heap.size + 1 + 1 + 1) A0 l0.length c0 c (by omega) hc0 ?hA (by omega) (by omega) wb (by omega) (by omega) hbs.cell hbn.cell)
      (fun h k => Ytpkcjkfkohmcfaa.ChunkS.Kp.tr h k) (Ytpkcjkfkohmcfaa.ChunkS.Kp.put (by omega) (by omega)) (Below.refl _ _) (fun _ => rfl)
      (impl_PagesOf.Inv w wb (w.heap.size + 1) l0 c a2) (fun _ _ _ => False) (impl_PagesOf.own (by omega) (by omega)) (fun _ _ _ _ _ hs _ _ => hs)
      ⟨⟨_, h8, Kd.S_nil _ _ _ _ _⟩, hbB, KeepBut.refl _ _ _⟩
      (fun x => { tmps := #[.slice A0 l0.length c0, .int .i64 ((c : Int) + 1), .string a2, undef, undef, .pointer (some ⟨w.heap.size, 0, none⟩), .slice none 0 0, .int .i64 0, .pointer (some ⟨w.heap.size + 1, 0, none⟩), .slice (some ((A0.getD ⟨0, 0, none⟩).add (Ytpkcjkfkohmcfaa.ChunkS.off l0.length c x))) (Ytpkcjkfkohmcfaa.ChunkS.cnt l0.length c x) (Ytpkcjkfkohmcfaa.ChunkS.cnt l0.length c x), .bool false, .slice A0 l0.length c0, .bool true, .bool false, .bool false, .int .i64 ((c : Int) + 1), .bool true, .bool false, .bool false, .string a2, .bool true, .bool false, .bool false, .slice A0 l0.length c0, .int .i64 ((c : Int) + 1), .int .i64 (c : Int), .func (.func 41) #[] #[.pointer (some ⟨w.heap.size + 1 + 1, 0, none⟩), .pointer (some ⟨w.heap.size + 1 + 1 + 1, 0, none⟩)], .slice (some ((A0.getD ⟨0, 0, none⟩).add (Ytpkcjkfkohmcfaa.ChunkS.off l0.length c x))) (Ytpkcjkfkohmcfaa.ChunkS.cnt l0.length c x) (Ytpkcjkfkohmcfaa.ChunkS.cnt l0.length c x), undef, undef, undef, undef, undef, undef, undef, undef], defers := [] }) ?assign ?body ?done ?stop
     case hA =>
      intro hp
      obtain ⟨_, _, h3⟩ := HR.out
      obtain ⟨ad, e, _⟩ := h3 hp
      exact ⟨ad, e⟩
     case assign =>
      intro l x W K hK
      simp only [Ytpkcjkfkohmcfaa.ChunkS.enc]
      gi_wp2
      exact hK
     case body =>
      rintro l pre x W ⟨⟨v, hv, hS⟩, hB, hK⟩ hlt
      gi_wp2
      obtain ⟨Av, cv, rfl⟩ := Kd.S_slice hS
      have h5' : Boxed W w.heap.size 9 (.string a2) := (hK.2 w.heap.size (by omega) (by omega) (by simp)).trans h5
      have hRd := impl_PagesOf.cut HR.out hB c x
      obtain ⟨ys, hys⟩ : ∃ ys, ys = (l0.drop (x * c)).take c := ⟨_, rfl⟩
      rw [← hys] at hRd
      obtain ⟨m, hm⟩ : ∃ m, m = Ytpkcjkfkohmcfaa.ChunkS.cnt l0.length c x := ⟨_, rfl⟩
      rw [← hm] at hRd ⊢
      have hml : m ≤ 100000 := by rw [hm]; unfold Ytpkcjkfkohmcfaa.ChunkS.cnt; omega
      obtain ⟨Ac, hAc⟩ : ∃ Ac, Ac = (A0.getD ⟨0, 0, none⟩).add (Ytpkcjkfkohmcfaa.ChunkS.off l0.length c x) := ⟨_, rfl⟩
      rw [← hAc] at hRd ⊢
      obtain ⟨n0, hn0⟩ : ∃ n0, n0 = (pre.map (impl_PagesOf.page l0 c a2)).length := ⟨_, rfl⟩
      have hnl : n0 ≤ 100000 := by rw [hn0, List.length_map]; omega
      rw [← hn0] at hv hS
      have HRD := Aside0.mk hRd
      have HS := Aside0.mk hS
      have HB := Aside0.mk hB
      have HKB := Aside0.mk hK
      have HV8 := Aside0.mk hv
      have HYS := Aside0.mk hys
      have HM := Aside0.mk hm
      have HN0 := Aside0.mk hn0
      have HAc := Aside0.mk hAc
      have hV := hv.cell
      have hF := hv.frozen
      have h5c := h5'.cell
      clear hRd hS hB hK hv hys hm hn0 hAc
      refine Ytpkcjkfkohmcfaa.RoundW.start_in (m := 8) (S := fun w' => w'.cell? ⟨w.heap.size + 1, 0, none⟩ = some (.slice Av n0 cv) ∧ w'.cell? ⟨w.heap.size, 0, none⟩ = some (.string a2)) (ds := [7]) #[false, false, false, false, false, false, false, false] (by rintro ⟨_, _, h⟩; exact h) (by kernel_rfl) (by kernel_rfl) rfl rfl ⟨hV, h5c⟩ (fun hHeld => ?_)
      refine with_tabW impl_PagesOf.tab8 impl_PagesOf.bits8 (fun HT_ HW_ => ?_)
      have HRD1 := HRD
      obtain ⟨wd, hwd⟩ : ∃ wd, W.drew = wd := ⟨_, rfl⟩
      have HKW := Aside0.mk (show KeepsOthers W wd by rw [← hwd]; exact KeepsOthers.drew W)
      have HWD := Aside0.mk (show wd.heap = W.heap by rw [← hwd]; rfl)
      have HSd : Aside0 (Kd.S (Kd.slice 9 Kd.string) 22 wd wb.heap.size (fun _ => True) (.slice Av n0 cv) (pre.map (impl_PagesOf.page l0 c a2))) := ⟨by rw [← hwd]; exact Kd.S_drew HS.out⟩
      have HBd : Aside0 (Below w.heap.size w wd) := ⟨by rw [← hwd]; exact below_drew1 HB.out⟩
      have HKd : Aside0 (KeepBut wb wd (w.heap.size + 1) none) := ⟨by rw [← hwd]; exact HKB.out⟩
      have hbs : wb.heap.size ≤ wd.heap.size := HKd.out.1
      have HRDd : Aside0 (ReadsRow (fun (x : ByteArray) (cs : List Value) => cs = [.string x]) 1 wd (some Ac) m ys) := ⟨by rw [← hwd]; exact HRD.out⟩
      rw [hwd] at hHeld ⊢
      refine take_ (i := 0) (N := some 28) (v := ?_) (a' := ?_) #[true, false, false, false, false, false, false, false] rfl rfl (take_ofW HT_.out HW_.out (by kernel_rfl)) (fun _ _ _ h => h) (Or.inl ⟨by rfl, ?_⟩) hHeld ?_ ?_
      rotate_left
      ·rintro w' ⟨s0, s1⟩
       go_simp
       with_reducible rfl
      rotate_left
      ·simp only [Act.put, List.setIfInBounds_toArray, List.set_cons_zero, List.set_cons_succ, i64_w, i32_w]
       rfl
      refine take_ (i := 1) (N := some 29) (v := ?_) (a' := ?_) #[true, true, false, false, false, false, false, false] rfl rfl (take_ofW HT_.out HW_.out (by kernel_rfl)) (fun _ _ _ h => h) (Or.inl ⟨by rfl, ?_⟩) hHeld ?_ ?_
      rotate_left
      ·rintro w' ⟨s0, s1⟩
       go_simp
       with_reducible rfl
      rotate_left
      ·simp only [Act.put, List.setIfInBounds_toArray, List.set_cons_zero, List.set_cons_succ, i64_w, i32_w]
       rfl
      refine puZ 3 (some 31) #[true, true, false, true, false, false, false, false] rfl rfl HT_.out ?_
      refine one_ (i := 2) (N := some 30) #[true, true, true, true, false, false, false, false] rfl rfl (one_of HT_.out (by kernel_rfl)) (by decide) (fun K hK => ?_)
      refine Kd.R_lit_step Kd.string (w0 := wd) wb.heap.size 9 (by rfl) (N := 30) rfl (xs := ([a2] : List ByteArray)) (inner := [.string a2]) (ok := fun k_ => wd.heap.size ≤ k_) (okp := fun _ => False) ?hr (Reps.one (show Kd.M Kd.string _ _ _ a2 [.string a2] from rfl) (Reps.none _ _)) (fun _ hk => hk.elim) (Nat.le_refl _) (Below.refl _ _) hbs (by simp) ?_
      (case hr => first | (go_simp; done) | (go_simp; rfl))
      intro v1 w1 ho1 hb1 hg1 hnew1
      obtain ⟨A1, c1, rfl⟩ := Kd.R_slice ho1
      have HO1 := Aside0.mk ho1
      have HB1 := Aside0.mk hb1
      have HG1 := Aside0.mk hg1
      have HS1 : Aside0 (Kd.S (Kd.slice 9 Kd.string) 22 w1 wb.heap.size (fun k_ => k_ < wd.heap.size) (.slice Av n0 cv) (pre.map (impl_PagesOf.page l0 c a2))) := ⟨Kd.S_grown (Kd.S_mono (Kd.S_bound HSd.out) (fun _ h => h.2.2.1)) hg1 (fun _ _ => by simp)⟩
      have HR1 : Aside0 (ReadsRow (fun (x : ByteArray) (cs : List Value) => cs = [.string x]) 1 w1 (some Ac) m ys) := ⟨ReadsRow.imp_ HRDd.out (Below.grown (Below.refl _ _) hg1 (Nat.le_refl _) (fun _ h => by cases h)) (fun _ _ h => h)⟩
      clear ho1 hb1 hg1 hnew1
      refine hK.out _ _ ⟨cell_grown HG1.out hHeld.1 (by simp), cell_grown HG1.out hHeld.2 (by simp)⟩ (fun hHeld => ?_)
      clear hK K
      refine norm_ (a' := ?_) ?_ ?_
      rotate_left
      ·show Act.put _ (some 30) _ = _
       simp only [Act.put, List.setIfInBounds_toArray, List.set_cons_zero, List.set_cons_succ, i64_w, i32_w]
       rfl
      refine one_ (i := 4) (N := some 32) #[true, true, true, true, true, false, false, false] rfl rfl (one_of HT_.out (by kernel_rfl)) (by decide) (fun K hK => ?_)
      refine Kd.R_append_rows_step Kd.string (w0 := w1) wb.heap.size (by rfl) (.tmp 30) (.tmp 31) 22 9 (.string ⟨#[]⟩) 16 rfl Try.underlying22 Ytpkcjkfkohmcfaa.ChunkS.infoS rfl (by decide) (by omega) (.slice A1 ([a2] : List ByteArray).length c1) [a2] ys (some Ac) m m (fun k_ => wd.heap.size ≤ k_) (fun _ => False) rfl rfl HO1.out HR1.out (fun _ _ h => h) (fun _ hk => hk.elim) (fun k_ hk => Nat.le_trans HG1.out.size hk) (Below.refl _ _) (Nat.le_trans hbs HG1.out.size) (by simp only [List.length_cons, List.length_nil]; omega) ?_
      intro v2 w2 ho2 hb2 hg2 hat2
      obtain ⟨A2, c2, rfl⟩ := Kd.R_slice ho2
      have hv1 : ∀ k_, (Value.slice A1 ([a2] : List ByteArray).length c1).ownBlock = some k_ → wd.heap.size ≤ k_ := fun k_ hk => HO1.out.1 k_ hk
      have HO2 := Aside0.mk ho2
      have HG2 := Aside0.mk hg2
      have HS2 : Aside0 (Kd.S (Kd.slice 9 Kd.string) 22 w2 wb.heap.size (fun k_ => k_ < wd.heap.size) (.slice Av n0 cv) (pre.map (impl_PagesOf.page l0 c a2))) := ⟨Kd.S_grown HS1.out hg2 (fun k_ hk e => by have := hv1 k_ e.symm; omega)⟩
      have HV1 := Aside0.mk hv1
      clear ho2 hb2 hg2 hat2 hv1
      have hlt8 : w.heap.size + 1 < wd.heap.size := by omega
      refine hK.out _ _ ⟨cell_grown HG2.out hHeld.1 (fun e => by have := HV1.out _ e.symm; (try simp only at this); omega), cell_grown HG2.out hHeld.2 (fun e => by have := HV1.out _ e.symm; (try simp only at this); omega)⟩ (fun hHeld => ?_)
      clear hK K
      refine norm_ (a' := ?_) ?_ ?_
      rotate_left
      ·show Act.put _ (some 32) _ = _
       simp only [Act.put, List.setIfInBounds_toArray, List.set_cons_zero, List.set_cons_succ, i64_w, i32_w]
       rfl
      refine one_ (i := 5) (N := some 33) #[true, true, true, true, true, true, false, false] rfl rfl (one_of HT_.out (by kernel_rfl)) (by decide) (fun K hK => ?_)
      refine value_ (w1 := ?_) (v := ?_) (by rfl) rfl ?_ ?_
      rotate_left 2
      ·go_simp
       constructor
       ·rfl
       ·rfl
      refine hK.out _ _ ⟨(World.cell?_alloc_lt _ _ _ (World.block_lt_of_cell? _ _ (hHeld.1))).trans (hHeld.1), (World.cell?_alloc_lt _ _ _ (World.block_lt_of_cell? _ _ (hHeld.2))).trans (hHeld.2)⟩ (fun hHeld => ?_)
      clear hK K
      refine norm_ (a' := ?_) ?_ ?_
      rotate_left
      ·show Act.put _ (some 33) _ = _
       simp only [Act.put, List.setIfInBounds_toArray, List.set_cons_zero, List.set_cons_succ, i64_w, i32_w]
       rfl
      refine one_ (i := 6) (N := some 34) #[true, true, true, true, true, true, true, false] rfl rfl (one_of HT_.out (by kernel_rfl)) (by decide) (fun K hK => ?_)
      refine Kd.S_append_step (Kd.slice 9 Kd.string) (w0 := w2) wb.heap.size (by rfl) (.tmp 28) (.tmp 33) 24 22 (.slice none 0 0) 24 rfl Try.underlying24 info22 rfl (by decide) (by omega) (.slice Av n0 cv) (pre.map (impl_PagesOf.page l0 c a2)) ([a2] ++ ys) [.slice A2 ([a2] ++ ys).length c2] (fun _ => True) (fun k_ => wd.heap.size ≤ k_) rfl rfl (Kd.M_row HO2.out) ?hq (fun _ _ => trivial) (Kd.S_mono HS2.out (fun k_ hk => ⟨trivial, by omega⟩)) (Below.refl _ _) (Nat.le_trans hbs (Nat.le_trans HG1.out.size HG2.out.size)) (by rw [← HN0.out]; omega) ?_
      (case hq => exact fun k_ hk => ⟨trivial, fun e => by have := Kd.S_lt HSd.out k_ e.symm; omega⟩)
      intro v3 w3 ho3 hb3 hg3 hat3
      obtain ⟨A3, c3, rfl⟩ := Kd.S_slice ho3
      have hne3 : some (w.heap.size + 1) ≠ (Value.slice Av n0 cv).ownBlock := HV8.out.not_row (by decide) (Kd.R_own (Kd.S_R HS.out)).choose_spec
      have HO3 := Aside0.mk ho3
      have HG3 := Aside0.mk hg3
      have hc3 : w3.cell? ⟨w.heap.size + 1, 0, none⟩ = some (.slice Av n0 cv) := cell_grown hg3 (cell_unalloc hHeld.1 (by show w.heap.size + 1 < _; have := HG1.out.size; have := HG2.out.size; omega)) hne3
      have hf3 : w3.frozen? ⟨w.heap.size + 1, 0, none⟩ = false := by
       have e3 := hg3.block (w.heap.size + 1) (by have := HG1.out.size; have := HG2.out.size; omega) hne3
       have e2 := HG2.out.block (w.heap.size + 1) (by have := HG1.out.size; omega) (fun e => by have := HV1.out _ e.symm; omega)
       have e1 := HG1.out.block (w.heap.size + 1) hlt8 (by simp)
       exact (World.frozen?_of_block (e3.trans (e2.trans e1))).trans (by rw [← hwd]; exact hF)
      clear ho3 hb3 hg3 hat3
      refine hK.out _ _ ⟨hc3, cell_grown HG3.out (cell_unalloc hHeld.2 (by show w.heap.size < _; have := HG1.out.size; have := HG2.out.size; omega)) ?hz⟩ (fun hHeld => ?_)
      (case hz => exact fun e => by have := Kd.S_base HSd.out _ e.symm; (try simp only at this); omega)
      clear hK K
      refine norm_ (a' := ?_) ?_ ?_
      rotate_left
      ·show Act.put _ (some 34) _ = _
       simp only [Act.put, List.setIfInBounds_toArray, List.set_cons_zero, List.set_cons_succ, i64_w, i32_w]
       rfl
      refine last_ (i := 7) (N := none) #[true, true, true, true, true, true, true, true] rfl rfl (one_of HT_.out (by kernel_rfl)) (by decide) (fun K hK => ?_)
      refine skip_ (w1 := ?_) (by rfl) rfl ?_ ?_
      rotate_left
      ·go_simp
       rfl
      refine hK.out _ _ ?_
      clear hK K
      refine done_ (done_of HT_.out (by kernel_rfl)) ?_
      have k1 : KeepsOthers wd w1 := KeepsOthers.of_grownBy HG1.out (fun j o e => by cases e)
      have k2 : KeepsOthers w1 w2 := KeepsOthers.of_grownBy HG2.out (fun j o e hj => by obtain ⟨cells, hc⟩ := Kd.R_typed HO1.out j e; rw [hc] at hj; cases hj; rfl)
      have k3 : KeepsOthers w2 w3 := KeepsOthers.of_grownBy HG3.out (fun j o e hj => by obtain ⟨cells, hc⟩ := Kd.S_typed HS2.out j e; rw [hc] at hj; cases hj; rfl)
      have hst : ∀ i, i < wb.heap.size → w3.heap[i]? = W.heap[i]? := by
       intro i hi
       have s1 := HG1.out.size
       have s2 := HG2.out.size
       have e3 := HG3.out.block i (by omega) (fun e => by have := Kd.S_base HSd.out _ e.symm; omega)
       have e2 := HG2.out.block i (by omega) (fun e => by have := HV1.out _ e.symm; omega)
       have e1 := HG1.out.block i (by omega) (by simp)
       rw [e3, e2, e1, HWD.out]
      have hsz3 : W.heap.size ≤ w3.heap.size := by have s1 := HG1.out.size; have s2 := HG2.out.size; have s3 := HG3.out.size; rw [HWD.out] at s1; omega
      have hst4 : ∀ (u : Value) (i : Nat), i < wb.heap.size → i ≠ w.heap.size + 1 → (w3.setCell ⟨w.heap.size + 1, 0, none⟩ u).heap[i]? = W.heap[i]? := fun u i hi hne => (Below.heap_setCell w3 ⟨w.heap.size + 1, 0, none⟩ u i hne).trans (hst i hi)
      have elen : (pre.map (impl_PagesOf.page l0 c a2) ++ [[a2] ++ ys]).length = pre.length + 1 := by simp
      have HO4 : Aside0 (Kd.S (Kd.slice 9 Kd.string) 22 w3 wb.heap.size (fun k_ => k_ ≠ w.heap.size + 1) (.slice A3 (pre.length + 1) c3) ((pre ++ [x]).map (impl_PagesOf.page l0 c a2))) := by
       refine ⟨?_⟩
       have h3 := Kd.S_mono (Kd.S_bound HO3.out) (ok' := fun k_ => k_ ≠ w.heap.size + 1) (fun k_ h => by have := h.2.1; omega)
       rw [elen] at h3
       rw [List.map_append, List.map_cons, List.map_nil, show impl_PagesOf.page l0 c a2 x = [a2] ++ ys from by rw [HYS.out]; rfl]
       exact h3
      refine ⟨((HKW.out.trans k1).trans (k2.trans (k3.trans (KeepsOthers.setCell w3 _ _)))).from _, ⟨World.cell?_of_block (hst4 _ _ (by show w.heap.size + 1 + 1 < _; omega) (by show w.heap.size + 1 + 1 ≠ _; omega)), World.cell?_of_block (hst4 _ _ (by show w.heap.size + 1 + 1 + 1 < _; omega) (by show w.heap.size + 1 + 1 + 1 ≠ _; omega))⟩, ⟨⟨_, Boxed.set _ ((hst _ (by omega)).trans HV8.out), Kd.S_mono (Kd.S_far (p := ⟨w.heap.size + 1, 0, none⟩) HO4.out (fun _ h => h) _) (fun _ _ => trivial)⟩, ?_, ?_⟩⟩
      ·have b1 := HBd.out.grown HG1.out HBd.out.size (fun _ h => by cases h)
       have b2 := b1.grown HG2.out b1.size (fun j e => by have := HV1.out _ e; omega)
       have b3 := b2.grown HG3.out b2.size (fun j e => by have := Kd.S_base HSd.out _ e; omega)
       exact b3.setCell (p := ⟨w.heap.size + 1, 0, none⟩) (by show w.heap.size ≤ w.heap.size + 1; omega) _
      ·refine ⟨?_, fun i hi hne hr => (hst4 _ i hi hne).trans (HKB.out.2 i hi hne hr)⟩
       have := HKB.out.1
       have := (KeepsOthers.setCell w3 ⟨w.heap.size + 1, 0, none⟩ (.slice A3 (pre.length + 1) c3)).size
       omega
     case done =>
      rintro D ys W hD hE ⟨⟨v, hv, hS⟩, hB, hK⟩ hKD
      have hc := hv.cell
      have HS := Aside0.mk hS
      have HB := Aside0.mk hB
      have HE := Aside0.mk (impl_PagesOf.ends (by omega) hE)
      clear hS hB hK hE hv
      gi_wp2
      refine ⟨by simp, .inl ⟨_, _, rfl, run_takeDeferred hKD, ?_⟩⟩
      have HB2 : Below w.heap.size w (W.putObj D (.deferred none)) := HB.out.grown (grownBy_putObj' W D _) HB.out.size (fun j e => by cases e; omega)
      refine ⟨_, results_tmp2 rfl _ _ _, v, rfl, ?_, HB2⟩
      rw [HE.out] at HS
      have hs1 := Kd.S_lower HS.out (show w.heap.size ≤ wb.heap.size by omega)
      rw [show ((c : Int) + 1 - 1).toNat = c by omega]
      refine Kd.S_mono (Kd.S_grown (Kd.S_bound hs1) (grownBy_putObj' W D _) ?_) (fun _ _ => trivial)
      rintro k_ ⟨_, _, _, q, _, cells, hcell⟩ e
      cases e
      rw [hcell] at hKD
      cases hKD
     case stop =>
      rintro D c pre W _ _ h _
      exact h.elim
    ·rw [if_neg hl] at h
     exact absurd h (by simp)
end Go.Proofs.Ytpkcjkfkohmcfaa.XN
end

section
namespace Go.Proofs.Ytpkcjkfkohmcfaa.XN
open Go.RowKit Go.Proofs.YtpkcjkfkohmcfaaW.PrintWords Go.Proofs.YtpkcjkfkohmcfaaW.PrintLast Go.Proofs.YtpkcjkfkohmcfaaW.PrintMore
attribute [local go_sem] run_eql_slice_nil binOp_string_gtr' binOp_string_leq' binOp_string_geq' max2_int min2_int max_two min_two max_three min_three max_four min_four   -- for this text's walks alone
set_option linter.unusedVariables false
set_option linter.unusedSimpArgs false
def laws_eqStringS.l0 : Nat → List ByteArray → List ByteArray → Int → Option (Bool)
 | 0, _, _, _ => none
 | k + 1, x0, x1, x5 => if x5 < (x0.length : Int) then (if 0 ≤ x5 then (if x5 < (x1.length : Int) then (if (rdOf ByteArray.empty x0 x5).toList = (rdOf ByteArray.empty x1 x5).toList then (laws_eqStringS.l0 k x0 x1 (wrap64 (x5 + 1))) else (some false)) else (none)) else (none)) else (some true)
def laws_eqStringS.f (k : Nat) (l0 : List ByteArray) (l1 : List ByteArray) : Option (Bool) := if (l0.length : Int) = (l1.length : Int) then (laws_eqStringS.l0 k l0 l1 0) else (some false)
set_option maxHeartbeats 8000000 in
set_option maxRecDepth 100000 in
theorem laws_eqStringS.calls (k : Nat) (A0 : Option Addr) (c0 : Nat) (l0 : List ByteArray) (A1 : Option Addr) (c1 : Nat) (l1 : List ByteArray) (r : Bool) (w : World) (hr0 : Kd.C Kd.string w A0 l0.length l0) (hc0 : l0.length ≤ c0) (hr1 : Kd.C Kd.string w A1 l1.length l1) (hc1 : l1.length ≤ c1) (h : laws_eqStringS.f k l0 l1 = some r) :
  Calls Try.prog 10 #[.slice A0 l0.length c0, .slice A1 l1.length c1] w fun e w' => e = .returned (.bool r) ∧ Drawn0 w w' := by
 have HR0 := Aside0.mk hr0
 have HC0 := Aside0.mk hc0
 clear hr0 hc0
 have HR1 := Aside0.mk hr1
 have HC1 := Aside0.mk hc1
 clear hr1 hc1
 have H : (if (l0.length : Int) = (l1.length : Int) then (laws_eqStringS.l0 k l0 l1 0) else (some false)) = some r := h
 clear h
 by_cases c3 : (l0.length : Int) = (l1.length : Int)
 ·rw [if_pos c3] at H
  have c3b0 : ((l0.length : Int) == (l1.length : Int)) = true := beq_iff_eq.mpr c3
  have c3b1 : ((l0.length : Int) != (l1.length : Int)) = false := bne_eq_false_iff_eq.mpr c3
  have c3b2 : (l0.length == l1.length) = true := by first | simpa using c3 | (simp at c3 ⊢; omega)
  clear c3
  have H' := Aside0.mk H
  clear H
  go_enter Try.func10, Try.ntmps10
  go_wp2
  repeat (go_quiet (fail); try go_wp2)
  go_loopg [5] k (fun kq v5 w' => ∃ (x5_1 : Int), v5 = .int .i64 x5_1 ∧ Aside0 (laws_eqStringS.l0 kq l0 l1 x5_1 = some r) ∧ Aside0 (kq ≤ k) ∧ Drawn0 w w')
  case atStart => exact ⟨(0), sZ, H', ⟨Nat.le_refl _⟩, dZ⟩
  case round =>
   clear H'; (try clear c1); (try clear p2); (try clear c3); (try clear c3b0); (try clear c3b1); (try clear c3b2)
   obtain ⟨x5_1, rfl, HA, HK1, ⟨m1, rfl⟩⟩ := hrel
   cases gk with
   | zero => exact absurd HA.out (by simp [laws_eqStringS.l0])
   | succ k1 =>
    have H := HA.out
    clear HA
    simp only [laws_eqStringS.l0] at H
    by_cases c4 : x5_1 < (l0.length : Int)
    ·rw [if_pos c4] at H
     have c4b0 : decide (x5_1 < (l0.length : Int)) = true := decide_eq_true c4
     clear c4
     by_cases c5 : 0 ≤ x5_1
     ·rw [if_pos c5] at H
      have c5b0 : decide (0 ≤ x5_1) = true := decide_eq_true c5
      clear c5
      by_cases c6 : x5_1 < (l1.length : Int)
      ·rw [if_pos c6] at H
       have c6b0 : decide (x5_1 < (l1.length : Int)) = true := decide_eq_true c6
       clear c6
       by_cases c7 : (rdOf ByteArray.empty l0 x5_1).toList = (rdOf ByteArray.empty l1 x5_1).toList
       ·rw [if_pos c7] at H
        have c7b0 : ((rdOf ByteArray.empty l0 x5_1).toList == (rdOf ByteArray.empty l1 x5_1).toList) = true := beq_iff_eq.mpr c7
        have c7b1 : ((rdOf ByteArray.empty l0 x5_1).toList != (rdOf ByteArray.empty l1 x5_1).toList) = false := bne_eq_false_iff_eq.mpr c7
        clear c7
        have H' := Aside0.mk H
        clear H
        have p149 : 0 ≤ (x5_1 : Int) := oZ
        have q149 : x5_1 < (l0.length : Int) := oZ
        obtain ⟨ad149, e149, hx149_0⟩ := Kd.at_string HR0.out x5_1 p149 q149
        cases e149
        replace p149 := eq_true p149
        replace q149 := eq_true q149
        have p150 : 0 ≤ (x5_1 : Int) := oZ
        have q150 : x5_1 < (l1.length : Int) := oZ
        obtain ⟨ad150, e150, hx150_0⟩ := Kd.at_string HR1.out x5_1 p150 q150
        cases e150
        replace p150 := eq_true p150
        replace q150 := eq_true q150
        go_wp2
        repeat (go_quiet (fail); try go_wp2)
        go_roundg k1
        case measure => have := HK1.out; omega
        case rel => exact ⟨(wrap64 (x5_1 + 1)), sZ, H', ⟨by have := HK1.out; omega⟩, dZ⟩
       ·rw [if_neg c7] at H
        have c7b0 : ((rdOf ByteArray.empty l0 x5_1).toList == (rdOf ByteArray.empty l1 x5_1).toList) = false := beq_eq_false_iff_ne.mpr c7
        have c7b1 : ((rdOf ByteArray.empty l0 x5_1).toList != (rdOf ByteArray.empty l1 x5_1).toList) = true := bne_iff_ne.mpr c7
        obtain rfl := Option.some.inj H
        have p149 : 0 ≤ (x5_1 : Int) := oZ
        have q149 : x5_1 < (l0.length : Int) := oZ
        obtain ⟨ad149, e149, hx149_0⟩ := Kd.at_string HR0.out x5_1 p149 q149
        cases e149
        replace p149 := eq_true p149
        replace q149 := eq_true q149
        have p150 : 0 ≤ (x5_1 : Int) := oZ
        have q150 : x5_1 < (l1.length : Int) := oZ
        obtain ⟨ad150, e150, hx150_0⟩ := Kd.at_string HR1.out x5_1 p150 q150
        cases e150
        replace p150 := eq_true p150
        replace q150 := eq_true q150
        go_wp2
        repeat (go_quiet (fail); try go_wp2)
        go_ret
        exact ⟨sZ, dZ⟩
      ·rw [if_neg c6] at H
       exact absurd H (by simp)
     ·rw [if_neg c5] at H
      exact absurd H (by simp)
    ·rw [if_neg c4] at H
     have c4b0 : decide (x5_1 < (l0.length : Int)) = false := decide_eq_false c4
     clear c4
     obtain rfl := Option.some.inj H
     go_wp2
     repeat (go_quiet (fail); try go_wp2)
     go_ret
     exact ⟨sZ, dZ⟩
 ·rw [if_neg c3] at H
  have c3b0 : ((l0.length : Int) == (l1.length : Int)) = false := beq_eq_false_iff_ne.mpr c3
  have c3b1 : ((l0.length : Int) != (l1.length : Int)) = true := bne_iff_ne.mpr c3
  have c3b2 : (l0.length == l1.length) = false := by first | simpa using c3 | (simp at c3 ⊢; omega)
  obtain rfl := Option.some.inj H
  go_enter Try.func10, Try.ntmps10
  go_wp2
  repeat (go_quiet (fail); try go_wp2)
  go_ret
  exact ⟨sZ, dZ⟩
end Go.Proofs.Ytpkcjkfkohmcfaa.XN
end

section
namespace Go.Proofs.Ytpkcjkfkohmcfaa.XN
open Go.RowKit Go.Proofs.YtpkcjkfkohmcfaaW.PrintWords Go.Proofs.YtpkcjkfkohmcfaaW.PrintLast Go.Proofs.YtpkcjkfkohmcfaaW.PrintMore
attribute [local go_sem] run_eql_slice_nil binOp_string_gtr' binOp_string_leq' binOp_string_geq' max2_int min2_int max_two min_two max_three min_three max_four min_four   -- for this text's walks alone
set_option linter.unusedVariables false
set_option linter.unusedSimpArgs false
def laws_eqStringSS.l0 : Nat → List (List ByteArray) → List (List ByteArray) → Int → Option (Bool)
 | 0, _, _, _ => none
 | k + 1, x0, x1, x5 => if x5 < (x0.length : Int) then (if 0 ≤ x5 then (if x5 < (x1.length : Int) then ((laws_eqStringS.f k (rd_L1 x0 x5) (rd_L1 x1 x5)).bind fun t153 => (if t153 = true then (laws_eqStringSS.l0 k x0 x1 (wrap64 (x5 + 1))) else (some false))) else (none)) else (none)) else (some true)
def laws_eqStringSS.f (k : Nat) (l0 : List (List ByteArray)) (l1 : List (List ByteArray)) : Option (Bool) := if (l0.length : Int) = (l1.length : Int) then (laws_eqStringSS.l0 k l0 l1 0) else (some false)
set_option maxHeartbeats 8000000 in
set_option maxRecDepth 100000 in
theorem laws_eqStringSS.calls (k : Nat) (A0 : Option Addr) (c0 : Nat) (l0 : List (List ByteArray)) (A1 : Option Addr) (c1 : Nat) (l1 : List (List ByteArray)) (r : Bool) (w : World) (hr0 : Kd.C (Kd.slice 9 Kd.string) w A0 l0.length l0) (hc0 : l0.length ≤ c0) (hr1 : Kd.C (Kd.slice 9 Kd.string) w A1 l1.length l1) (hc1 : l1.length ≤ c1) (h : laws_eqStringSS.f k l0 l1 = some r) :
  Calls Try.prog 9 #[.slice A0 l0.length c0, .slice A1 l1.length c1] w fun e w' => e = .returned (.bool r) ∧ Drawn0 w w' := by
 have HR0 := Aside0.mk hr0
 have HC0 := Aside0.mk hc0
 clear hr0 hc0
 have HR1 := Aside0.mk hr1
 have HC1 := Aside0.mk hc1
 clear hr1 hc1
 have H : (if (l0.length : Int) = (l1.length : Int) then (laws_eqStringSS.l0 k l0 l1 0) else (some false)) = some r := h
 clear h
 by_cases c3 : (l0.length : Int) = (l1.length : Int)
 ·rw [if_pos c3] at H
  have c3b0 : ((l0.length : Int) == (l1.length : Int)) = true := beq_iff_eq.mpr c3
  have c3b1 : ((l0.length : Int) != (l1.length : Int)) = false := bne_eq_false_iff_eq.mpr c3
  have c3b2 : (l0.length == l1.length) = true := by first | simpa using c3 | (simp at c3 ⊢; omega)
  clear c3
  have H' := Aside0.mk H
  clear H
  go_enter Try.func9, Try.ntmps9
  go_wp2
  repeat (go_quiet (fail); try go_wp2)
  go_loopg [5] k (fun kq v5 w' => ∃ (x5_1 : Int), v5 = .int .i64 x5_1 ∧ Aside0 (laws_eqStringSS.l0 kq l0 l1 x5_1 = some r) ∧ Aside0 (kq ≤ k) ∧ Drawn0 w w')
  case atStart => exact ⟨(0), sZ, H', ⟨Nat.le_refl _⟩, dZ⟩
  case round =>
   clear H'; (try clear c1); (try clear p2); (try clear c3); (try clear c3b0); (try clear c3b1); (try clear c3b2)
   obtain ⟨x5_1, rfl, HA, HK1, ⟨m1, rfl⟩⟩ := hrel
   cases gk with
   | zero => exact absurd HA.out (by simp [laws_eqStringSS.l0])
   | succ k1 =>
    have H := HA.out
    clear HA
    simp only [laws_eqStringSS.l0] at H
    by_cases c4 : x5_1 < (l0.length : Int)
    ·rw [if_pos c4] at H
     have c4b0 : decide (x5_1 < (l0.length : Int)) = true := decide_eq_true c4
     clear c4
     by_cases c5 : 0 ≤ x5_1
     ·rw [if_pos c5] at H
      have c5b0 : decide (0 ≤ x5_1) = true := decide_eq_true c5
      clear c5
      by_cases c6 : x5_1 < (l1.length : Int)
      ·rw [if_pos c6] at H
       have c6b0 : decide (x5_1 < (l1.length : Int)) = true := decide_eq_true c6
       clear c6
       replace H := Option.bind_eq_some_iff.mp H
       obtain ⟨t153, A70, H⟩ := H
       replace H : (if t153 = true then (laws_eqStringSS.l0 k1 l0 l1 (wrap64 (x5_1 + 1))) else (some false)) = some r := H
       have A7 := Aside0.mk A70
       clear A70
       by_cases c8 : t153 = true
       ·subst c8
        have H1 : (laws_eqStringSS.l0 k1 l0 l1 (wrap64 (x5_1 + 1))) = some r := by rw [if_pos rfl] at H; exact H
        clear H
        have H := H1
        clear H1
        have H' := Aside0.mk H
        clear H
        have p151 : 0 ≤ (x5_1 : Int) := oZ
        have q151 : x5_1 < (l0.length : Int) := oZ
        obtain ⟨ad151, A151_0, c151_0, e151, hx151_0, hl151_0, hi151_0⟩ := at_L1 HR0.out x5_1 p151 q151
        cases e151
        have HR151_0 := Aside0.mk hi151_0
        have HC151_0 := Aside0.mk hl151_0
        clear hi151_0 hl151_0
        replace p151 := eq_true p151
        replace q151 := eq_true q151
        have p152 : 0 ≤ (x5_1 : Int) := oZ
        have q152 : x5_1 < (l1.length : Int) := oZ
        obtain ⟨ad152, A152_0, c152_0, e152, hx152_0, hl152_0, hi152_0⟩ := at_L1 HR1.out x5_1 p152 q152
        cases e152
        have HR152_0 := Aside0.mk hi152_0
        have HC152_0 := Aside0.mk hl152_0
        clear hi152_0 hl152_0
        replace p152 := eq_true p152
        replace q152 := eq_true q152
        go_wp2_with (first | (go_at_call 10; (with_reducible refine (laws_eqStringS.calls k1 _ _ (rd_L1 l0 x5_1) _ _ (rd_L1 l1 x5_1) true _ ?side1 ?side2 ?side3 ?side4 A7.out).mono ?_); (case side1 => repeat (first | exact HR151_0.out | (with_reducible refine Kd.C_alloc ?_ _) | (with_reducible refine Kd.C_drewN ?_ _) | (with_reducible refine Kd.C_drew ?_))); (case side2 => exact HC151_0.out); (case side3 => repeat (first | exact HR152_0.out | (with_reducible refine Kd.C_alloc ?_ _) | (with_reducible refine Kd.C_drewN ?_ _) | (with_reducible refine Kd.C_drew ?_))); (case side4 => exact HC152_0.out); rintro e w' ⟨rfl, ⟨nd, rfl⟩⟩; (try first | exact ⟨rfl, _, World.drewN_drewN _ _ _⟩ | exact ⟨rfl, _, Eq.trans (World.drewN_drewN _ _ _) (congrArg (World.drewN _) (Nat.add_assoc _ _ _))⟩)))
        repeat (go_quiet (first | (go_at_call 10; (with_reducible refine (laws_eqStringS.calls k1 _ _ (rd_L1 l0 x5_1) _ _ (rd_L1 l1 x5_1) true _ ?side1 ?side2 ?side3 ?side4 A7.out).mono ?_); (case side1 => repeat (first | exact HR151_0.out | (with_reducible refine Kd.C_alloc ?_ _) | (with_reducible refine Kd.C_drewN ?_ _) | (with_reducible refine Kd.C_drew ?_))); (case side2 => exact HC151_0.out); (case side3 => repeat (first | exact HR152_0.out | (with_reducible refine Kd.C_alloc ?_ _) | (with_reducible refine Kd.C_drewN ?_ _) | (with_reducible refine Kd.C_drew ?_))); (case side4 => exact HC152_0.out); rintro e w' ⟨rfl, ⟨nd, rfl⟩⟩; (try first | exact ⟨rfl, _, World.drewN_drewN _ _ _⟩ | exact ⟨rfl, _, Eq.trans (World.drewN_drewN _ _ _) (congrArg (World.drewN _) (Nat.add_assoc _ _ _))⟩))); try go_wp2_with (first | (go_at_call 10; (with_reducible refine (laws_eqStringS.calls k1 _ _ (rd_L1 l0 x5_1) _ _ (rd_L1 l1 x5_1) true _ ?side1 ?side2 ?side3 ?side4 A7.out).mono ?_); (case side1 => repeat (first | exact HR151_0.out | (with_reducible refine Kd.C_alloc ?_ _) | (with_reducible refine Kd.C_drewN ?_ _) | (with_reducible refine Kd.C_drew ?_))); (case side2 => exact HC151_0.out); (case side3 => repeat (first | exact HR152_0.out | (with_reducible refine Kd.C_alloc ?_ _) | (with_reducible refine Kd.C_drewN ?_ _) | (with_reducible refine Kd.C_drew ?_))); (case side4 => exact HC152_0.out); rintro e w' ⟨rfl, ⟨nd, rfl⟩⟩; (try first | exact ⟨rfl, _, World.drewN_drewN _ _ _⟩ | exact ⟨rfl, _, Eq.trans (World.drewN_drewN _ _ _) (congrArg (World.drewN _) (Nat.add_assoc _ _ _))⟩))))
        go_roundg k1
        case measure => have := HK1.out; omega
        case rel => exact ⟨(wrap64 (x5_1 + 1)), sZ, H', ⟨by have := HK1.out; omega⟩, dZ⟩
       ·replace c8 := Bool.eq_false_iff.mpr c8
        subst c8
        have H1 : (some false) = some r := by rw [if_neg (show ¬ (false = true) by decide)] at H; exact H
        clear H
        have H := H1
        clear H1
        obtain rfl := Option.some.inj H
        have p151 : 0 ≤ (x5_1 : Int) := oZ
        have q151 : x5_1 < (l0.length : Int) := oZ
        obtain ⟨ad151, A151_0, c151_0, e151, hx151_0, hl151_0, hi151_0⟩ := at_L1 HR0.out x5_1 p151 q151
        cases e151
        have HR151_0 := Aside0.mk hi151_0
        have HC151_0 := Aside0.mk hl151_0
        clear hi151_0 hl151_0
        replace p151 := eq_true p151
        replace q151 := eq_true q151
        have p152 : 0 ≤ (x5_1 : Int) := oZ
        have q152 : x5_1 < (l1.length : Int) := oZ
        obtain ⟨ad152, A152_0, c152_0, e152, hx152_0, hl152_0, hi152_0⟩ := at_L1 HR1.out x5_1 p152 q152
        cases e152
        have HR152_0 := Aside0.mk hi152_0
        have HC152_0 := Aside0.mk hl152_0
        clear hi152_0 hl152_0
        replace p152 := eq_true p152
        replace q152 := eq_true q152
        go_wp2_with (first | (go_at_call 10; (with_reducible refine (laws_eqStringS.calls k1 _ _ (rd_L1 l0 x5_1) _ _ (rd_L1 l1 x5_1) false _ ?side1 ?side2 ?side3 ?side4 A7.out).mono ?_); (case side1 => repeat (first | exact HR151_0.out | (with_reducible refine Kd.C_alloc ?_ _) | (with_reducible refine Kd.C_drewN ?_ _) | (with_reducible refine Kd.C_drew ?_))); (case side2 => exact HC151_0.out); (case side3 => repeat (first | exact HR152_0.out | (with_reducible refine Kd.C_alloc ?_ _) | (with_reducible refine Kd.C_drewN ?_ _) | (with_reducible refine Kd.C_drew ?_))); (case side4 => exact HC152_0.out); rintro e w' ⟨rfl, ⟨nd, rfl⟩⟩; (try first | exact ⟨rfl, _, World.drewN_drewN _ _ _⟩ | exact ⟨rfl, _, Eq.trans (World.drewN_drewN _ _ _) (congrArg (World.drewN _) (Nat.add_assoc _ _ _))⟩)))
        repeat (go_quiet (first | (go_at_call 10; (with_reducible refine (laws_eqStringS.calls k1 _ _ (rd_L1 l0 x5_1) _ _ (rd_L1 l1 x5_1) false _ ?side1 ?side2 ?side3 ?side4 A7.out).mono ?_); (case side1 => repeat (first | exact HR151_0.out | (with_reducible refine Kd.C_alloc ?_ _) | (with_reducible refine Kd.C_drewN ?_ _) | (with_reducible refine Kd.C_drew ?_))); (case side2 => exact HC151_0.out); (case side3 => repeat (first | exact HR152_0.out | (with_reducible refine Kd.C_alloc ?_ _) | (with_reducible refine Kd.C_drewN ?_ _) | (with_reducible refine Kd.C_drew ?_))); (case side4 => exact HC152_0.out); rintro e w' ⟨rfl, ⟨nd, rfl⟩⟩; (try first | exact ⟨rfl, _, World.drewN_drewN _ _ _⟩ | exact ⟨rfl, _, Eq.trans (World.drewN_drewN _ _ _) (congrArg (World.drewN _) (Nat.add_assoc _ _ _))⟩))); try go_wp2_with (first | (go_at_call 10; (with_reducible refine (laws_eqStringS.calls k1 _ _ (rd_L1 l0 x5_1) _ _ (rd_L1 l1 x5_1) false _ ?side1 ?side2 ?side3 ?side4 A7.out).mono ?_); (case side1 => repeat (first | exact HR151_0.out | (with_reducible refine Kd.C_alloc ?_ _) | (with_reducible refine Kd.C_drewN ?_ _) | (with_reducible refine Kd.C_drew ?_))); (case side2 => exact HC151_0.out); (case side3 => repeat (first | exact HR152_0.out | (with_reducible refine Kd.C_alloc ?_ _) | (with_reducible refine Kd.C_drewN ?_ _) | (with_reducible refine Kd.C_drew ?_))); (case side4 => exact HC152_0.out); rintro e w' ⟨rfl, ⟨nd, rfl⟩⟩; (try first | exact ⟨rfl, _, World.drewN_drewN _ _ _⟩ | exact ⟨rfl, _, Eq.trans (World.drewN_drewN _ _ _) (congrArg (World.drewN _) (Nat.add_assoc _ _ _))⟩))))
        go_ret
        exact ⟨sZ, dZ⟩
      ·rw [if_neg c6] at H
       exact absurd H (by simp)
     ·rw [if_neg c5] at H
      exact absurd H (by simp)
    ·rw [if_neg c4] at H
     have c4b0 : decide (x5_1 < (l0.length : Int)) = false := decide_eq_false c4
     clear c4
     obtain rfl := Option.some.inj H
     go_wp2
     repeat (go_quiet (fail); try go_wp2)
     go_ret
     exact ⟨sZ, dZ⟩
 ·rw [if_neg c3] at H
  have c3b0 : ((l0.length : Int) == (l1.length : Int)) = false := beq_eq_false_iff_ne.mpr c3
  have c3b1 : ((l0.length : Int) != (l1.length : Int)) = true := bne_iff_ne.mpr c3
  have c3b2 : (l0.length == l1.length) = false := by first | simpa using c3 | (simp at c3 ⊢; omega)
  obtain rfl := Option.some.inj H
  go_enter Try.func9, Try.ntmps9
  go_wp2
  repeat (go_quiet (fail); try go_wp2)
  go_ret
  exact ⟨sZ, dZ⟩
end Go.Proofs.Ytpkcjkfkohmcfaa.XN
end

section
namespace Go.Proofs.Ytpkcjkfkohmcfaa.XN
open Go.RowKit Go.Proofs.YtpkcjkfkohmcfaaW.PrintWords Go.Proofs.YtpkcjkfkohmcfaaW.PrintLast Go.Proofs.YtpkcjkfkohmcfaaW.PrintMore
attribute [local go_sem] run_eql_slice_nil binOp_string_gtr' binOp_string_leq' binOp_string_geq' max2_int min2_int max_two min_two max_three min_three max_four min_four   -- for this text's walks alone
set_option linter.unusedVariables false
set_option linter.unusedSimpArgs false
def laws_markText.l0 : Nat → Int → ByteArray → Option (ByteArray)
 | 0, _, _ => none
 | k + 1, x0, x3 => if x0 > 0 then ((some (([(wrap64 (48 + (Int.tmod x0 10))) % 256] : List Int) : List Int)).bind fun y154 => (if (strOfNums y154).size + x3.size ≤ 9223372036854775807 then (laws_markText.l0 k (wrap64 (Int.tdiv x0 10)) ((strOfNums y154) ++ x3)) else (none))) else (if 1 + x3.size ≤ 9223372036854775807 then (some ((⟨#[109]⟩ : ByteArray) ++ x3)) else (none))
def laws_markText.f (k : Nat) (a0 : Int) : Option (ByteArray) := if a0 ≤ 0 then (some (⟨#[109, 48]⟩ : ByteArray)) else (laws_markText.l0 k a0 (⟨#[]⟩ : ByteArray))
set_option maxHeartbeats 8000000 in
set_option maxRecDepth 100000 in
theorem laws_markText.calls (k : Nat) (a0 : Int) (r : ByteArray) (w : World) (h : laws_markText.f k a0 = some r) :
  Calls Try.prog 29 #[.int .i64 a0] w fun e w' => e = .returned (.string r) ∧ Below w.heap.size w w' := by
 have HB := Aside0.mk (Below.refl w.heap.size w)
 have H : (if a0 ≤ 0 then (some (⟨#[109, 48]⟩ : ByteArray)) else (laws_markText.l0 k a0 (⟨#[]⟩ : ByteArray))) = some r := h
 clear h
 by_cases c2 : a0 ≤ 0
 ·rw [if_pos c2] at H
  have c2b0 : decide (a0 ≤ 0) = true := decide_eq_true c2
  clear c2
  obtain rfl := Option.some.inj H
  go_enter Try.func29, Try.ntmps29
  go_wp2
  go_ret
  exact ⟨eZ, bZ⟩
 ·rw [if_neg c2] at H
  have c2b0 : decide (a0 ≤ 0) = false := decide_eq_false c2
  clear c2
  have H' := Aside0.mk H
  clear H
  go_enter Try.func29, Try.ntmps29
  go_wp2
  go_loopg [0, 3] k (fun kq v0 v3 w' => ∃ (x0_1 : Int) (x3_1 : ByteArray), v0 = .int .i64 x0_1 ∧ v3 = .string x3_1 ∧ Aside0 (laws_markText.l0 kq x0_1 x3_1 = some r) ∧ Aside0 (kq ≤ k) ∧ Aside0 (Below w.heap.size w w'))
  case atStart => exact ⟨(a0), ((⟨#[]⟩ : ByteArray)), sZ, sZ, H', ⟨Nat.le_refl _⟩, ⟨bZ⟩⟩
  case round =>
   clear H'; (try clear c2); (try clear c2b0); (try clear p2)
   obtain ⟨x0_1, x3_1, rfl, rfl, HA, HK1, HB⟩ := hrel
   cases gk with
   | zero => exact absurd HA.out (by simp [laws_markText.l0])
   | succ k1 =>
    have H := HA.out
    clear HA
    simp only [laws_markText.l0] at H
    by_cases c3 : x0_1 > 0
    ·rw [if_pos c3] at H
     have c3b0 : decide (0 < x0_1) = true := decide_eq_true c3
     clear c3
     obtain ⟨y154, hy154⟩ : ∃ y_ : List Int, y_ = (([(wrap64 (48 + (Int.tmod x0_1 10))) % 256] : List Int)) := ⟨_, rfl⟩
     replace H : (if (strOfNums y154).size + x3_1.size ≤ 9223372036854775807 then (laws_markText.l0 k1 (wrap64 (Int.tdiv x0_1 10)) ((strOfNums y154) ++ x3_1)) else (none)) = some r := by first | (rw [hy154]; with_reducible exact H) | (have H2_ := (Option.bind_some _ _).symm.trans H; rw [hy154]; with_reducible exact H2_) | (have H2_ := (Option.bind_some _ _).symm.trans H; with_reducible exact H2_) | with_reducible exact H | (rw [hy154]; exact H) | exact H
     have Ny154 := Aside0.mk hy154
     clear hy154
     by_cases c4 : (strOfNums y154).size + x3_1.size ≤ 9223372036854775807
     ·rw [if_pos c4] at H
      have c4b0 := eq_true c4
      have c4b1 : decide ((strOfNums y154).size + x3_1.size ≤ 9223372036854775807) = true := decide_eq_true c4
      try have c4b2 : (9223372036854775807 < (strOfNums y154).size + x3_1.size) = False := eq_false (Nat.not_lt.2 c4)
      have H' := Aside0.mk H
      clear H
      go_wp2_with (first | ((with_reducible refine gate_dst (N := 12) rfl ?_); refine Kd.R_lit (Kd.int .u8) _ 5 ?hg (N := 12) ?hd (xs := ([(wrap64 (48 + (Int.tmod x0_1 10))) % 256] : List Int)) (inner := [.int .u8 ((wrap64 (48 + (Int.tmod x0_1 10))) % 256)]) (ok := fun _ => True) (okp := fun _ => True) ?hr ?hp (fun _ hk => hk) trivial (Below.refl _ _) (Nat.le_refl _) (by simp) ?_; (case hd => rfl); (case hg => rfl); (case hr => first | (go_simp; done) | (go_simp; rfl)); (case hp => exact (Reps.one (show Kd.M (Kd.int .u8) _ _ _ ((wrap64 (48 + (Int.tmod x0_1 10))) % 256) [.int .u8 ((wrap64 (48 + (Int.tmod x0_1 10))) % 256)] from rfl) (Reps.none _ _))); intro v155 w5 ho6 hb hg_ hnew_; clear hg_ hnew_; (first | rw [← Ny154.out] at ho6 | (simp only [Int.reduceToNat] at ho6; rw [← Ny154.out] at ho6)); have n0_ := Aside0.mk (Kd.R_lower ho6 bsZ); have n1_ := Aside0.mk (below_step bZ hb); clear HB; have HO156 := n0_; have HB := n1_; clear n0_ n1_; clear hb ho6; have hcv7 := own_string (P := Try.prog) Try.underlying32 Try.underlying5 Try.underlying9 (Kd.own_of_R HO156.out)))
      go_roundg k1
      case measure => have := HK1.out; omega
      case rel => exact ⟨(wrap64 (Int.tdiv x0_1 10)), ((strOfNums y154) ++ x3_1), sZ, sZ, H', ⟨by have := HK1.out; omega⟩, ⟨bZ⟩⟩
     ·rw [if_neg c4] at H
      exact absurd H (by simp)
    ·rw [if_neg c3] at H
     have c3b0 : decide (0 < x0_1) = false := decide_eq_false c3
     clear c3
     by_cases c8 : 1 + x3_1.size ≤ 9223372036854775807
     ·rw [if_pos c8] at H
      have c8b0 := eq_true c8
      have c8b1 : decide (1 + x3_1.size ≤ 9223372036854775807) = true := decide_eq_true c8
      try have c8b2 : (9223372036854775807 < 1 + x3_1.size) = False := eq_false (Nat.not_lt.2 c8)
      obtain rfl := Option.some.inj H
      go_wp2
      go_ret
      exact ⟨eZ, bZ⟩
     ·rw [if_neg c8] at H
      exact absurd H (by simp)
def laws_markStringS.l0 : Nat → List ByteArray → Int → Int → Option (Int × List ByteArray)
 | 0, _, _, _ => none
 | k + 1, x0, x1, x5 => if x5 < (x0.length : Int) then ((laws_markText.f k x1).bind fun t157 => (if 0 ≤ x5 then (laws_markStringS.l0 k (x0.set (x5 : Int).toNat t157) (wrap64 (x1 + 1)) (wrap64 (x5 + 1))) else (none))) else (some (x1, x0))
def laws_markStringS.f (k : Nat) (l0 : List ByteArray) (a1 : Int) : Option (Int × List ByteArray) := laws_markStringS.l0 k l0 a1 0
set_option maxHeartbeats 8000000 in
set_option maxRecDepth 100000 in
theorem laws_markStringS.calls (k : Nat) (P0_ : Nat → Prop) (u9000_ : Value) (l0 : List ByteArray) (a1 : Int) (r1 : Int) (r2 : List ByteArray) (w0 w : World) (hB : Below w0.heap.size w0 w) (ho0 : Kd.R Kd.string 9 w w0.heap.size P0_ u9000_ l0) (h : laws_markStringS.f k l0 a1 = some (r1, r2)) :
  Calls Try.prog 11 #[u9000_, .int .i64 a1] w fun e w' => e = .returned (.int .i64 r1) ∧ Kd.R Kd.string 9 w' w0.heap.size (fun k_ => (P0_ k_ ∨ w.heap.size ≤ k_)) u9000_ r2 ∧ Below w0.heap.size w0 w' ∧ Kept w w' (fun k_ => P0_ k_) := by
 have HO0 := Aside0.mk (show Kd.R Kd.string 9 w w0.heap.size (fun k_ => (P0_ k_ ∨ w.heap.size ≤ k_)) u9000_ l0 from Kd.R_mono ho0 (fun k_ hk => (.inl hk)))
 have HK := Aside0.mk (Kept.refl w (fun k_ => P0_ k_))
 have HW0 := Aside0.mk hB.size
 have HB := Aside0.mk hB
 clear hB
 have H : (laws_markStringS.l0 k l0 a1 0) = some (r1, r2) := h
 clear h
 have H' := Aside0.mk H
 clear H
 go_enter Try.func11, Try.ntmps11
 go_wp2
 go_loopg [1, 5] k (fun kq v1 v5 w' => ∃ (x0_1 : List ByteArray) (x1_1 : Int) (x5_1 : Int), v1 = .int .i64 x1_1 ∧ v5 = .int .i64 x5_1 ∧ Aside0 (laws_markStringS.l0 kq x0_1 x1_1 x5_1 = some (r1, r2)) ∧ Aside0 (kq ≤ k) ∧ Aside0 (Kd.R Kd.string 9 w' w0.heap.size (fun k_ => (P0_ k_ ∨ w.heap.size ≤ k_)) u9000_ x0_1) ∧ Aside0 (Kept w w' (fun k_ => P0_ k_)) ∧ Aside0 (Below w0.heap.size w0 w'))
 case atStart => exact ⟨(l0), (a1), (0), sZ, sZ, H', ⟨Nat.le_refl _⟩, ⟨Kd.rZ HO0.out⟩, ⟨by repeat (first | (with_reducible first | exact HK.out | apply Kept.alloc | apply Kept.drewN | apply Kept.drew) | exact HK.out)⟩, ⟨bZ⟩⟩
 case round =>
  clear H'; (try clear c1); (try clear p2)
  obtain ⟨x0_1, x1_1, x5_1, rfl, rfl, HA, HK1, HO_0, HK, HB⟩ := hrel
  cases gk with
  | zero => exact absurd HA.out (by simp [laws_markStringS.l0])
  | succ k1 =>
   have H := HA.out
   clear HA
   simp only [laws_markStringS.l0] at H
   by_cases c3 : x5_1 < (x0_1.length : Int)
   ·rw [if_pos c3] at H
    have c3b0 : decide (x5_1 < (x0_1.length : Int)) = true := decide_eq_true c3
    clear c3
    replace H := Option.bind_eq_some_iff.mp H
    obtain ⟨t157, A40, H⟩ := H
    replace H : (if 0 ≤ x5_1 then (laws_markStringS.l0 k1 (x0_1.set (x5_1 : Int).toNat t157) (wrap64 (x1_1 + 1)) (wrap64 (x5_1 + 1))) else (none)) = some (r1, r2) := H
    have A4 := Aside0.mk A40
    clear A40
    by_cases c5 : 0 ≤ x5_1
    ·rw [if_pos c5] at H
     have c5b0 : decide (0 ≤ x5_1) = true := decide_eq_true c5
     clear c5
     obtain ⟨y158, hy158⟩ : ∃ y_ : List ByteArray, y_ = (x0_1.set (x5_1 : Int).toNat t157) := ⟨_, rfl⟩
     replace H : (laws_markStringS.l0 k1 y158 (wrap64 (x1_1 + 1)) (wrap64 (x5_1 + 1))) = some (r1, r2) := by first | (rw [hy158]; with_reducible exact H) | (have H2_ := (Option.bind_some _ _).symm.trans H; rw [hy158]; with_reducible exact H2_) | (have H2_ := (Option.bind_some _ _).symm.trans H; with_reducible exact H2_) | with_reducible exact H | (rw [hy158]; exact H) | exact H
     have Ny158 := Aside0.mk hy158
     clear hy158
     have H' := Aside0.mk H
     clear H
     obtain ⟨Ao7, co7, eo7⟩ := Kd.R_slice HO_0.out
     subst eo7
     go_wp2_with (first | ((with_reducible refine gate_callee (f := 29) rfl ?_); refine goesL_ (some 15) rfl rfl Try.func29 (by kernel_rfl) rfl #[.int .i64 x1_1] rfl gZ ?_; (with_reducible refine (laws_markText.calls k1 x1_1 t157 _ A4.out).mono ?_); rintro e w8 ⟨rfl, hb⟩; refine ⟨_, rfl, ?_⟩; have n0_ := Aside0.mk (Kd.R_below (Kd.rZ HO_0.out) hb); have n1_ := Aside0.mk (Kept.below (S := (fun k_ => P0_ k_)) (by repeat (first | (with_reducible first | exact HK.out | apply Kept.alloc | apply Kept.drewN | apply Kept.drew) | exact HK.out)) hb); have n2_ := Aside0.mk (below_step bZ hb); clear HO_0; clear HK; clear HB; have HO_0 := n0_; have HK := n1_; have HB := n2_; clear n0_ n1_ n2_; (try clear hb); (try clear hb2); (try clear hk); (try clear hi); have p6 : 0 ≤ (x5_1 : Int) := oZ; have q6 : (x5_1 : Int) < ((x0_1.length : Int) : Int) := oZ; obtain ⟨go6, co6, eo6, gb6, gl6, cl6, HG6⟩ := Kd.R_form HO_0.out (by omega); (first | cases eo6 | (injection eo6 with ea_ en_ ec_; (first | subst ea_ | (injection ea_ with ea_; subst ea_)); subst ec_; clear en_)); have GB6 := Aside0.mk gb6; have GG6 := Aside0.mk HG6; clear gb6 gl6 HG6; have HMgo6 := Aside0.mk (show (P0_ go6 ∨ w.heap.size ≤ go6) from (HO_0.out.1 _ rfl)); obtain ⟨hx6_0, hf6_0⟩ := Kd.R_celln (⟨#[]⟩ : ByteArray) HO_0.out (x5_1 : Int) p6 q6; replace p6 := eq_true p6; replace q6 := eq_true q6; obtain ⟨hy9_, hz9_⟩ := Kd.R_celln (⟨#[]⟩ : ByteArray) HO_0.out (x5_1 : Int) oZ oZ; have HP9 := Kd.R_putg HO_0.out (x5_1 : Int) t157) | ((with_reducible refine gate_store (t := 9) (p := 16) rfl ?_); refine store_event (t := 9) (p := 16) (v := ?vo_w10) (w1 := (w8.setCell ⟨go6, (x5_1 : Int).toNat, none⟩ (.string t157))) ?hg ?ho ?hn ?hr ?_; (case ho => rfl); (case hg => rfl); (case hn => rfl); (case hr => first | (go_simp; done) | (go_simp; rfl)); intro w10 hw; have hg : w8.grownBy w10 (some go6) := (by rw [hw]; exact HP9.2); have hp_ : Kd.R Kd.string 9 w10 w0.heap.size (fun k_ => (P0_ k_ ∨ w.heap.size ≤ k_)) (.slice (some ⟨go6, 0, none⟩) x0_1.length co7) y158 := (by rw [hw, Ny158.out]; exact HP9.1); clear HP9; have n0_ := Aside0.mk (hp_); have n1_ := Aside0.mk ((by rw [hw]; exact below_set (HB.out) GB6.out : Below w0.heap.size w0 w10)); have n2_ := Aside0.mk (Kept.of_grown (S := (fun k_ => P0_ k_)) hg (by repeat (first | (with_reducible first | exact HK.out | apply Kept.alloc | apply Kept.drewN | apply Kept.drew) | exact HK.out)) (fun k_ e_ => (HO_0.out.1 k_ e_))); clear HO_0; clear HB; clear HK; have HO_0 := n0_; have HB := n1_; have HK := n2_; clear n0_ n1_ n2_; clear hg hw hp_))
     go_roundg k1
     case measure => have := HK1.out; omega
     case rel => exact ⟨(y158), (wrap64 (x1_1 + 1)), (wrap64 (x5_1 + 1)), sZ, sZ, H', ⟨by have := HK1.out; omega⟩, ⟨Kd.rZ HO_0.out⟩, ⟨by repeat (first | (with_reducible first | exact HK.out | apply Kept.alloc | apply Kept.drewN | apply Kept.drew) | exact HK.out)⟩, ⟨bZ⟩⟩
    ·rw [if_neg c5] at H
     exact absurd H (by simp)
   ·rw [if_neg c3] at H
    have c3b0 : decide (x5_1 < (x0_1.length : Int)) = false := decide_eq_false c3
    clear c3
    simp only [Option.some.injEq, Prod.mk.injEq] at H
    obtain ⟨rfl, rfl⟩ := H
    obtain ⟨Ao11, co11, eo11⟩ := Kd.R_slice HO_0.out
    subst eo11
    go_wp2
    go_ret
    exact ⟨eZ, Kd.rZ HO_0.out, bZ, by repeat (first | (with_reducible first | exact HK.out | apply Kept.alloc | apply Kept.drewN | apply Kept.drew) | exact HK.out)⟩
end Go.Proofs.Ytpkcjkfkohmcfaa.XN
end

section
namespace Go.Proofs.Ytpkcjkfkohmcfaa.XN
open Go.RowKit Go.Proofs.YtpkcjkfkohmcfaaW.PrintWords Go.Proofs.YtpkcjkfkohmcfaaW.PrintLast Go.Proofs.YtpkcjkfkohmcfaaW.PrintMore
attribute [local go_sem] run_eql_slice_nil binOp_string_gtr' binOp_string_leq' binOp_string_geq' max2_int min2_int max_two min_two max_three min_three max_four min_four   -- for this text's walks alone
set_option linter.unusedVariables false
set_option linter.unusedSimpArgs false
def laws_markStringSS.l0 : Nat → List (List ByteArray) → Int → Int → Option (Int × List (List ByteArray))
 | 0, _, _, _ => none
 | k + 1, x0, x1, x5 => if x5 < (x0.length : Int) then (if 0 ≤ x5 then ((laws_markStringS.f k (x0.getD x5.toNat []) x1).bind fun b => laws_markStringSS.l0 k (x0.set x5.toNat b.2) b.1 (wrap64 (x5 + 1))) else none) else some (x1, x0)
def laws_markStringSS.f (k : Nat) (l0 : List (List ByteArray)) (a1 : Int) : Option (Int × List (List ByteArray)) := laws_markStringSS.l0 k l0 a1 0
set_option maxHeartbeats 1000000 in
theorem laws_markStringSS.calls (k : Nat) (P0_ : Nat → Prop) (u9000_ : Value) (l0 : List (List ByteArray)) (a1 : Int) (r1 : Int) (r2 : List (List ByteArray)) (w0 w : World) (hB : Below w0.heap.size w0 w) (ho0 : Kd.S (Kd.slice 9 Kd.string) 22 w w0.heap.size P0_ u9000_ l0) (h : laws_markStringSS.f k l0 a1 = some (r1, r2)) :
  Calls Try.prog 12 #[u9000_, .int .i64 a1] w fun e w' => e = .returned (.int .i64 r1) ∧ Kd.S (Kd.slice 9 Kd.string) 22 w' w0.heap.size P0_ u9000_ r2 ∧ Below w0.heap.size w0 w' ∧ Kept w w' (fun k_ => P0_ k_) := by
 obtain ⟨A, c, rfl⟩ := Kd.S_slice ho0
 have HO0 := Aside0.mk ho0
 have HK := Aside0.mk (Kept.refl w (fun k_ => P0_ k_))
 have HB := Aside0.mk hB
 have H' := Aside0.mk (show laws_markStringSS.l0 k l0 a1 0 = some (r1, r2) from h)
 clear hB ho0 h
 go_enter Try.func12, Try.ntmps12
 go_wp2
 go_loopg [1, 5] k (fun kq v1 v5 w' => ∃ (x0 : List (List ByteArray)) (x1 x5 : Int), v1 = .int .i64 x1 ∧ v5 = .int .i64 x5 ∧ Aside0 (laws_markStringSS.l0 kq x0 x1 x5 = some (r1, r2)) ∧ Aside0 (kq ≤ k) ∧ Aside0 (Kd.S (Kd.slice 9 Kd.string) 22 w' w0.heap.size P0_ (.slice A l0.length c) x0) ∧ Aside0 (Kept w w' (fun k_ => P0_ k_)) ∧ Aside0 (Below w0.heap.size w0 w'))
 case atStart => exact ⟨l0, a1, 0, rfl, rfl, H', ⟨Nat.le_refl _⟩, ⟨by (with_reducible repeat (first | apply Kd.S_alloc | apply Kd.S_drewN | apply Kd.S_drew)); exact HO0.out⟩, ⟨by repeat (first | (with_reducible first | exact HK.out | apply Kept.alloc | apply Kept.drewN | apply Kept.drew) | exact HK.out)⟩, ⟨bZ⟩⟩
 case round =>
  clear H'
  obtain ⟨x0, x1, x5, rfl, rfl, HA, HK1, HS, HK, HB⟩ := hrel
  cases gk with
  | zero => exact absurd HA.out (by simp [laws_markStringSS.l0])
  | succ k1 =>
   have H := HA.out
   clear HA
   simp only [laws_markStringSS.l0] at H
   have hlen : l0.length = x0.length := (Kd.S_reads' HS.out).1
   by_cases c3 : x5 < (x0.length : Int)
   ·rw [if_pos c3] at H
    by_cases c5 : 0 ≤ x5
    ·rw [if_pos c5] at H
     obtain ⟨b, hb, H⟩ := Option.bind_eq_some_iff.mp H
     have HH := Aside0.mk H
     have HM := Aside0.mk hb
     clear H hb
     obtain ⟨g, cap, e0, _, _, _⟩ := Kd.S_form HS.out (by omega)
     injection e0 with e1 e2 e3
     subst e1
     subst e3
     obtain ⟨oki, cc, hcl, hMM, hcells, hoki, hH⟩ := Kd.S_lend HS.out [] x5 c5 (by rw [hlen]; exact c3)
     obtain ⟨el, hel⟩ : ∃ el, el = x0.getD x5.toNat [] := ⟨_, rfl⟩
     rw [← hel] at hMM
     replace HM := Aside0.mk (by rw [hel]; exact HM.out : laws_markStringS.f k1 el x1 = some b)
     clear hel
     obtain ⟨v, rfl, hR⟩ := hMM
     have hx : wr.cell? ⟨g, x5.toNat, none⟩ = some v := by
      have := hcells 0 v rfl
      simpa [Kd.slice] using this
     obtain ⟨A2, c2, rfl⟩ := Kd.R_slice hR
     have c3b0 : decide (x5 < (l0.length : Int)) = true := decide_eq_true (by rw [hlen]; exact c3)
     have c5b0 : decide (0 ≤ x5) = true := decide_eq_true c5
     have p1_ : (0 ≤ x5) = True := eq_true c5
     have q1_ : (x5 < (l0.length : Int)) = True := eq_true (by rw [hlen]; exact c3)
     have HR := Aside0.mk hR
     have HHH := Aside0.mk hH
     have HOK := Aside0.mk hoki
     have HLEN := Aside0.mk hlen
     clear hR hH hoki hcells hcl e2 hlen c3 c5
     go_wp2_with (go_at_call 11; go_loud ((with_reducible refine (laws_markStringS.calls k1 oki _ el x1 b.1 b.2 w0 _ HB.out HR.out HM.out).mono ?_); rintro e w2 ⟨rfl, hy, hb2, hk2⟩; have HY := Aside0.mk hy; have HB2 := Aside0.mk hb2; have HK2 := Aside0.mk hk2; clear hy hb2 hk2 hx))
     go_roundg k1
     case measure => have := HK1.out; omega
     case rel =>
      refine ⟨_, _, _, rfl, rfl, HH, ⟨by have := HK1.out; omega⟩, ⟨?_⟩, ⟨Kept.then_ HK.out HK2.out (fun k_ hk => .inl (HOK.out k_ hk).1)⟩, HB2⟩
      have h2 := Kd.H_step HHH.out (w1 := w2) (fun k_ _ hn hlt => HK2.out.2 k_ hlt hn)
      refine Kd.H_back h2 (okp := oki) ⟨_, rfl, Kd.R_mono (Kd.R_tight rfl HY.out) (fun k_ hk => HR.out.1 k_ hk.symm)⟩ (fun _ h => h)
    ·rw [if_neg c5] at H
     exact absurd H (by simp)
   ·rw [if_neg c3] at H
    have c3b0 : decide (x5 < (l0.length : Int)) = false := decide_eq_false (by rw [hlen]; exact c3)
    simp only [Option.some.injEq, Prod.mk.injEq] at H
    obtain ⟨rfl, rfl⟩ := H
    clear c3 hlen
    go_wp2
    go_ret
    exact ⟨rfl, HS.out, HB.out, HK.out⟩
end Go.Proofs.Ytpkcjkfkohmcfaa.XN
end

section
namespace Go.Proofs.Ytpkcjkfkohmcfaa.XN
open Go.RowKit Go.Proofs.YtpkcjkfkohmcfaaW.PrintWords Go.Proofs.YtpkcjkfkohmcfaaW.PrintLast Go.Proofs.YtpkcjkfkohmcfaaW.PrintMore
attribute [local go_sem] run_eql_slice_nil binOp_string_gtr' binOp_string_leq' binOp_string_geq' max2_int min2_int max_two min_two max_three min_three max_four min_four   -- for this text's walks alone
set_option linter.unusedVariables false
set_option linter.unusedSimpArgs false
def laws_heldStringS.l0 : Nat → List ByteArray → Int → Int → Option (Int)
 | 0, _, _, _ => none
 | k + 1, x0, x1, x5 => if x5 < (x0.length : Int) then (if 0 ≤ x5 then ((laws_markText.f k x1).bind fun t160 => (if (rdOf ByteArray.empty x0 x5).toList = t160.toList then (laws_heldStringS.l0 k x0 (wrap64 (x1 + 1)) (wrap64 (x5 + 1))) else (some (-1)))) else (none)) else (some x1)
def laws_heldStringS.f (k : Nat) (l0 : List ByteArray) (a1 : Int) : Option (Int) := laws_heldStringS.l0 k l0 a1 0
set_option maxHeartbeats 8000000 in
set_option maxRecDepth 100000 in
theorem laws_heldStringS.calls (k : Nat) (A0 : Option Addr) (c0 : Nat) (l0 : List ByteArray) (a1 : Int) (r : Int) (w : World) (hr0 : Kd.C Kd.string w A0 l0.length l0) (hc0 : l0.length ≤ c0) (h : laws_heldStringS.f k l0 a1 = some r) :
  Calls Try.prog 30 #[.slice A0 l0.length c0, .int .i64 a1] w fun e w' => e = .returned (.int .i64 r) ∧ Below w.heap.size w w' := by
 have HR0 := Aside0.mk hr0
 have HC0 := Aside0.mk hc0
 clear hr0 hc0
 have HB := Aside0.mk (Below.refl w.heap.size w)
 have H : (laws_heldStringS.l0 k l0 a1 0) = some r := h
 clear h
 have H' := Aside0.mk H
 clear H
 go_enter Try.func30, Try.ntmps30
 go_wp2
 go_loopg [1, 5] k (fun kq v1 v5 w' => ∃ (x1_1 : Int) (x5_1 : Int), v1 = .int .i64 x1_1 ∧ v5 = .int .i64 x5_1 ∧ Aside0 (laws_heldStringS.l0 kq l0 x1_1 x5_1 = some r) ∧ Aside0 (kq ≤ k) ∧ Aside0 (Below w.heap.size w w'))
 case atStart => exact ⟨(a1), (0), sZ, sZ, H', ⟨Nat.le_refl _⟩, ⟨bZ⟩⟩
 case round =>
  clear H'; (try clear p2)
  obtain ⟨x1_1, x5_1, rfl, rfl, HA, HK1, HB⟩ := hrel
  cases gk with
  | zero => exact absurd HA.out (by simp [laws_heldStringS.l0])
  | succ k1 =>
   have H := HA.out
   clear HA
   simp only [laws_heldStringS.l0] at H
   by_cases c3 : x5_1 < (l0.length : Int)
   ·rw [if_pos c3] at H
    have c3b0 : decide (x5_1 < (l0.length : Int)) = true := decide_eq_true c3
    clear c3
    by_cases c4 : 0 ≤ x5_1
    ·rw [if_pos c4] at H
     have c4b0 : decide (0 ≤ x5_1) = true := decide_eq_true c4
     clear c4
     replace H := Option.bind_eq_some_iff.mp H
     obtain ⟨t160, A50, H⟩ := H
     replace H : (if (rdOf ByteArray.empty l0 x5_1).toList = t160.toList then (laws_heldStringS.l0 k1 l0 (wrap64 (x1_1 + 1)) (wrap64 (x5_1 + 1))) else (some (-1))) = some r := H
     have A5 := Aside0.mk A50
     clear A50
     by_cases c6 : (rdOf ByteArray.empty l0 x5_1).toList = t160.toList
     ·rw [if_pos c6] at H
      have c6b0 : ((rdOf ByteArray.empty l0 x5_1).toList == t160.toList) = true := beq_iff_eq.mpr c6
      have c6b1 : ((rdOf ByteArray.empty l0 x5_1).toList != t160.toList) = false := bne_eq_false_iff_eq.mpr c6
      clear c6
      have H' := Aside0.mk H
      clear H
      try go_wp2
      have n0_ := Aside0.mk (below_drew1 HB.out)
      clear HB
      have HB := n0_
      clear n0_
      have p159 : 0 ≤ (x5_1 : Int) := oZ
      have q159 : x5_1 < (l0.length : Int) := oZ
      obtain ⟨ad159, e159, hx159_0⟩ := Kd.at_string HR0.out x5_1 p159 q159
      have hw159_0 := hx159_0
      cases e159
      replace hx159_0 := (HB.out.cell (World.block_lt_of_cell? w _ hx159_0)).trans hx159_0
      replace p159 := eq_true p159
      replace q159 := eq_true q159
      refine start_ (n := 7) (S := fun w' => w'.cell? (ad159.add (x5_1).toNat) = some (.string (rdOf ByteArray.empty l0 x5_1))) (ds := []) #[false, false, false, false, false, false, false] (by kernel_rfl) rfl rfl (((HB.out.cell (World.block_lt_of_cell? w _ hw159_0)).trans hw159_0)) (fun hHeld => ?_)
      generalize wr.drew = w7 at HB hx159_0 hHeld ⊢
      refine puY 0 (some 12) #[true, false, false, false, false, false, false] rfl rfl ?_
      refine puY 1 (some 13) #[true, true, false, false, false, false, false] rfl rfl ?_
      refine puY 2 (some 14) #[true, true, true, false, false, false, false] rfl rfl ?_
      refine puY 4 (some 16) #[true, true, true, false, true, false, false] rfl rfl ?_
      refine take_ (i := 3) (N := some 15) (v := ?_) (a' := ?_) #[true, true, true, true, true, false, false] rfl rfl (by kernel_rfl) (fun _ _ _ h => h) (Or.inl ⟨by rfl, ?_⟩) hHeld ?_ ?_
      rotate_left
      ·intro w' s0
       go_simp
       with_reducible rfl
      rotate_left
      ·simp only [Act.put, List.setIfInBounds_toArray, List.set_cons_zero, List.set_cons_succ, i64_w, i32_w]
       rfl
      refine one_ (i := 5) (N := some 17) #[true, true, true, true, true, true, false] rfl rfl (by kernel_rfl) (by decide) (fun K hK => ?_)
      refine goes_ Try.func29 (by kernel_rfl) rfl #[.int .i64 x1_1] (by rfl) rfl rfl gZ ?_
      with_reducible refine (laws_markText.calls k1 x1_1 t160 _ A5.out).mono ?_
      rintro e w8 ⟨rfl, hb⟩
      refine ⟨_, rfl, ?_⟩
      have n0_ := Aside0.mk (below_step bZ hb)
      clear HB
      have HB := n0_
      clear n0_
      (try clear hb)
      (try clear hb2)
      (try clear hk)
      (try clear hi)
      refine hK.out _ _ (((HB.out.cell (World.block_lt_of_cell? w _ hw159_0)).trans hw159_0)) (fun hHeld => ?_)
      clear hK K
      refine norm_ (a' := ?_) ?_ ?_
      rotate_left
      ·show Act.put _ (some 17) _ = _
       simp only [Act.put, List.setIfInBounds_toArray, List.set_cons_zero, List.set_cons_succ, i64_w, i32_w]
       rfl
      refine puY 6 (some 18) #[true, true, true, true, true, true, true] rfl rfl ?_
      refine done_ (by kernel_rfl) ?_
      try go_wp2
      go_roundg k1
      case measure => have := HK1.out; omega
      case rel => exact ⟨(wrap64 (x1_1 + 1)), (wrap64 (x5_1 + 1)), sZ, sZ, H', ⟨by have := HK1.out; omega⟩, ⟨bZ⟩⟩
     ·rw [if_neg c6] at H
      have c6b0 : ((rdOf ByteArray.empty l0 x5_1).toList == t160.toList) = false := beq_eq_false_iff_ne.mpr c6
      have c6b1 : ((rdOf ByteArray.empty l0 x5_1).toList != t160.toList) = true := bne_iff_ne.mpr c6
      obtain rfl := Option.some.inj H
      try go_wp2
      have n0_ := Aside0.mk (below_drew1 HB.out)
      clear HB
      have HB := n0_
      clear n0_
      have p159 : 0 ≤ (x5_1 : Int) := oZ
      have q159 : x5_1 < (l0.length : Int) := oZ
      obtain ⟨ad159, e159, hx159_0⟩ := Kd.at_string HR0.out x5_1 p159 q159
      have hw159_0 := hx159_0
      cases e159
      replace hx159_0 := (HB.out.cell (World.block_lt_of_cell? w _ hx159_0)).trans hx159_0
      replace p159 := eq_true p159
      replace q159 := eq_true q159
      refine start_ (n := 7) (S := fun w' => w'.cell? (ad159.add (x5_1).toNat) = some (.string (rdOf ByteArray.empty l0 x5_1))) (ds := []) #[false, false, false, false, false, false, false] (by kernel_rfl) rfl rfl (((HB.out.cell (World.block_lt_of_cell? w _ hw159_0)).trans hw159_0)) (fun hHeld => ?_)
      generalize wr.drew = w9 at HB hx159_0 hHeld ⊢
      refine puY 0 (some 12) #[true, false, false, false, false, false, false] rfl rfl ?_
      refine puY 1 (some 13) #[true, true, false, false, false, false, false] rfl rfl ?_
      refine puY 2 (some 14) #[true, true, true, false, false, false, false] rfl rfl ?_
      refine puY 4 (some 16) #[true, true, true, false, true, false, false] rfl rfl ?_
      refine take_ (i := 3) (N := some 15) (v := ?_) (a' := ?_) #[true, true, true, true, true, false, false] rfl rfl (by kernel_rfl) (fun _ _ _ h => h) (Or.inl ⟨by rfl, ?_⟩) hHeld ?_ ?_
      rotate_left
      ·intro w' s0
       go_simp
       with_reducible rfl
      rotate_left
      ·simp only [Act.put, List.setIfInBounds_toArray, List.set_cons_zero, List.set_cons_succ, i64_w, i32_w]
       rfl
      refine one_ (i := 5) (N := some 17) #[true, true, true, true, true, true, false] rfl rfl (by kernel_rfl) (by decide) (fun K hK => ?_)
      refine goes_ Try.func29 (by kernel_rfl) rfl #[.int .i64 x1_1] (by rfl) rfl rfl gZ ?_
      with_reducible refine (laws_markText.calls k1 x1_1 t160 _ A5.out).mono ?_
      rintro e w10 ⟨rfl, hb⟩
      refine ⟨_, rfl, ?_⟩
      have n0_ := Aside0.mk (below_step bZ hb)
      clear HB
      have HB := n0_
      clear n0_
      (try clear hb)
      (try clear hb2)
      (try clear hk)
      (try clear hi)
      refine hK.out _ _ (((HB.out.cell (World.block_lt_of_cell? w _ hw159_0)).trans hw159_0)) (fun hHeld => ?_)
      clear hK K
      refine norm_ (a' := ?_) ?_ ?_
      rotate_left
      ·show Act.put _ (some 17) _ = _
       simp only [Act.put, List.setIfInBounds_toArray, List.set_cons_zero, List.set_cons_succ, i64_w, i32_w]
       rfl
      refine puY 6 (some 18) #[true, true, true, true, true, true, true] rfl rfl ?_
      refine done_ (by kernel_rfl) ?_
      try go_wp2
      go_ret
      exact ⟨eZ, bZ⟩
    ·rw [if_neg c4] at H
     exact absurd H (by simp)
   ·rw [if_neg c3] at H
    have c3b0 : decide (x5_1 < (l0.length : Int)) = false := decide_eq_false c3
    clear c3
    obtain rfl := Option.some.inj H
    go_wp2
    go_ret
    exact ⟨eZ, bZ⟩
end Go.Proofs.Ytpkcjkfkohmcfaa.XN
end

section
namespace Go.Proofs.Ytpkcjkfkohmcfaa.XN
open Go.RowKit Go.Proofs.YtpkcjkfkohmcfaaW.PrintWords Go.Proofs.YtpkcjkfkohmcfaaW.PrintLast Go.Proofs.YtpkcjkfkohmcfaaW.PrintMore
attribute [local go_sem] run_eql_slice_nil binOp_string_gtr' binOp_string_leq' binOp_string_geq' max2_int min2_int max_two min_two max_three min_three max_four min_four   -- for this text's walks alone
set_option linter.unusedVariables false
set_option linter.unusedSimpArgs false
def laws_heldStringSS.l0 : Nat → List (List ByteArray) → Int → Int → Option (Int)
 | 0, _, _, _ => none
 | k + 1, x0, x1, x5 => if x5 < (x0.length : Int) then (if 0 ≤ x5 then ((laws_heldStringS.f k (rd_L1 x0 x5) x1).bind fun t162 => (if t162 < 0 then (some (-1)) else (laws_heldStringSS.l0 k x0 t162 (wrap64 (x5 + 1))))) else (none)) else (some x1)
def laws_heldStringSS.f (k : Nat) (l0 : List (List ByteArray)) (a1 : Int) : Option (Int) := laws_heldStringSS.l0 k l0 a1 0
set_option maxHeartbeats 8000000 in
set_option maxRecDepth 100000 in
theorem laws_heldStringSS.calls (k : Nat) (A0 : Option Addr) (c0 : Nat) (l0 : List (List ByteArray)) (a1 : Int) (r : Int) (w : World) (hr0 : Kd.C (Kd.slice 9 Kd.string) w A0 l0.length l0) (hc0 : l0.length ≤ c0) (h : laws_heldStringSS.f k l0 a1 = some r) :
  Calls Try.prog 13 #[.slice A0 l0.length c0, .int .i64 a1] w fun e w' => e = .returned (.int .i64 r) ∧ Below w.heap.size w w' := by
 have HR0 := Aside0.mk hr0
 have HC0 := Aside0.mk hc0
 clear hr0 hc0
 have HB := Aside0.mk (Below.refl w.heap.size w)
 have H : (laws_heldStringSS.l0 k l0 a1 0) = some r := h
 clear h
 have H' := Aside0.mk H
 clear H
 go_enter Try.func13, Try.ntmps13
 go_wp2
 go_loopg [1, 5] k (fun kq v1 v5 w' => ∃ (x1_1 : Int) (x5_1 : Int), v1 = .int .i64 x1_1 ∧ v5 = .int .i64 x5_1 ∧ Aside0 (laws_heldStringSS.l0 kq l0 x1_1 x5_1 = some r) ∧ Aside0 (kq ≤ k) ∧ Aside0 (Below w.heap.size w w'))
 case atStart => exact ⟨(a1), (0), sZ, sZ, H', ⟨Nat.le_refl _⟩, ⟨bZ⟩⟩
 case round =>
  clear H'; (try clear c1); (try clear p2)
  obtain ⟨x1_1, x5_1, rfl, rfl, HA, HK1, HB⟩ := hrel
  cases gk with
  | zero => exact absurd HA.out (by simp [laws_heldStringSS.l0])
  | succ k1 =>
   have H := HA.out
   clear HA
   simp only [laws_heldStringSS.l0] at H
   by_cases c3 : x5_1 < (l0.length : Int)
   ·rw [if_pos c3] at H
    have c3b0 : decide (x5_1 < (l0.length : Int)) = true := decide_eq_true c3
    clear c3
    by_cases c4 : 0 ≤ x5_1
    ·rw [if_pos c4] at H
     have c4b0 : decide (0 ≤ x5_1) = true := decide_eq_true c4
     clear c4
     replace H := Option.bind_eq_some_iff.mp H
     obtain ⟨t162, A50, H⟩ := H
     replace H : (if t162 < 0 then (some (-1)) else (laws_heldStringSS.l0 k1 l0 t162 (wrap64 (x5_1 + 1)))) = some r := H
     have A5 := Aside0.mk A50
     clear A50
     by_cases c6 : t162 < 0
     ·rw [if_pos c6] at H
      have c6b0 : decide (t162 < 0) = true := decide_eq_true c6
      clear c6
      obtain rfl := Option.some.inj H
      have p161 : 0 ≤ (x5_1 : Int) := oZ
      have q161 : x5_1 < (l0.length : Int) := oZ
      obtain ⟨ad161, A161_0, c161_0, e161, hx161_0, hl161_0, hi161_0⟩ := at_L1 HR0.out x5_1 p161 q161
      cases e161
      replace hx161_0 := (HB.out.cell (World.block_lt_of_cell? w _ hx161_0)).trans hx161_0
      have HR161_0 := Aside0.mk hi161_0
      have HC161_0 := Aside0.mk hl161_0
      clear hi161_0 hl161_0
      replace p161 := eq_true p161
      replace q161 := eq_true q161
      go_wp2_with (first | ((with_reducible refine gate_callee (f := 30) rfl ?_); refine goesL_ (some 17) rfl rfl Try.func30 (by kernel_rfl) rfl #[.slice A161_0 (rd_L1 l0 x5_1).length c161_0, .int .i64 x1_1] rfl gZ ?_; (with_reducible refine (laws_heldStringS.calls k1 _ _ (rd_L1 l0 x5_1) x1_1 t162 _ ?side1 ?side2 A5.out).mono ?_); (case side1 => repeat (first | exact (Kd.C_below HR161_0.out HB.out) | (with_reducible refine Kd.C_alloc ?_ _) | (with_reducible refine Kd.C_drewN ?_ _) | (with_reducible refine Kd.C_drew ?_))); (case side2 => exact HC161_0.out); rintro e w7 ⟨rfl, hb⟩; refine ⟨_, rfl, ?_⟩; have n0_ := Aside0.mk (below_step bZ hb); clear HB; have HB := n0_; clear n0_; (try clear hb); (try clear hb2); (try clear hk); (try clear hi)))
      go_ret
      exact ⟨eZ, bZ⟩
     ·rw [if_neg c6] at H
      have c6b0 : decide (t162 < 0) = false := decide_eq_false c6
      clear c6
      have H' := Aside0.mk H
      clear H
      have p161 : 0 ≤ (x5_1 : Int) := oZ
      have q161 : x5_1 < (l0.length : Int) := oZ
      obtain ⟨ad161, A161_0, c161_0, e161, hx161_0, hl161_0, hi161_0⟩ := at_L1 HR0.out x5_1 p161 q161
      cases e161
      replace hx161_0 := (HB.out.cell (World.block_lt_of_cell? w _ hx161_0)).trans hx161_0
      have HR161_0 := Aside0.mk hi161_0
      have HC161_0 := Aside0.mk hl161_0
      clear hi161_0 hl161_0
      replace p161 := eq_true p161
      replace q161 := eq_true q161
      go_wp2_with (first | ((with_reducible refine gate_callee (f := 30) rfl ?_); refine goesL_ (some 17) rfl rfl Try.func30 (by kernel_rfl) rfl #[.slice A161_0 (rd_L1 l0 x5_1).length c161_0, .int .i64 x1_1] rfl gZ ?_; (with_reducible refine (laws_heldStringS.calls k1 _ _ (rd_L1 l0 x5_1) x1_1 t162 _ ?side1 ?side2 A5.out).mono ?_); (case side1 => repeat (first | exact (Kd.C_below HR161_0.out HB.out) | (with_reducible refine Kd.C_alloc ?_ _) | (with_reducible refine Kd.C_drewN ?_ _) | (with_reducible refine Kd.C_drew ?_))); (case side2 => exact HC161_0.out); rintro e w8 ⟨rfl, hb⟩; refine ⟨_, rfl, ?_⟩; have n0_ := Aside0.mk (below_step bZ hb); clear HB; have HB := n0_; clear n0_; (try clear hb); (try clear hb2); (try clear hk); (try clear hi)))
      go_roundg k1
      case measure => have := HK1.out; omega
      case rel => exact ⟨(t162), (wrap64 (x5_1 + 1)), sZ, sZ, H', ⟨by have := HK1.out; omega⟩, ⟨bZ⟩⟩
    ·rw [if_neg c4] at H
     exact absurd H (by simp)
   ·rw [if_neg c3] at H
    have c3b0 : decide (x5_1 < (l0.length : Int)) = false := decide_eq_false c3
    clear c3
    obtain rfl := Option.some.inj H
    go_wp2
    go_ret
    exact ⟨eZ, bZ⟩
end Go.Proofs.Ytpkcjkfkohmcfaa.XN
end

section
namespace Go.Proofs.Ytpkcjkfkohmcfaa.XN
open Go.RowKit Go.Proofs.YtpkcjkfkohmcfaaW.PrintWords Go.Proofs.YtpkcjkfkohmcfaaW.PrintLast Go.Proofs.YtpkcjkfkohmcfaaW.PrintMore
attribute [local go_sem] run_eql_slice_nil binOp_string_gtr' binOp_string_leq' binOp_string_geq' max2_int min2_int max_two min_two max_three min_three max_four min_four   -- for this text's walks alone
set_option linter.unusedVariables false
set_option linter.unusedSimpArgs false
def laws_FnExactPagesOf.f (k : Nat) (l0 : List ByteArray) (a1 : Int) (a2 : ByteArray) : Option Bool := if (a2.size : Int) > 1048576 then some true else ((laws_szStringS.f k l0 1048576).bind fun t3 => (if t3 < 0 then some true else ((laws_toStringS.f k l0).bind fun t8 => ((spec_PagesOf.f k t8 a1 a2).bind fun bt17 => ((laws_toStringS.f k l0).bind fun t28 => ((impl_PagesOf.f k t28 a1 a2).bind fun bt37 => ((laws_eqStringSS.f k bt37.1 bt17.1).bind fun t48 => (if t48 = true then (if bt37.2 = bt17.2 then ((laws_toStringS.f k l0).bind fun t53 => ((laws_eqStringS.f k t28 t53).bind fun t63 => (if t63 = true then ((laws_markStringS.f k t28 1).bind fun bt67 => (if ¬ bt67.1 < 0 then ((laws_eqStringSS.f k bt37.1 bt17.1).bind fun t74 => (if t74 = true then (if bt37.2 = bt17.2 then ((laws_markStringSS.f k bt37.1 1).bind fun bt78 => ((laws_heldStringSS.f k bt78.2 1).bind fun t84 => (if ¬ t84 < 0 then (if t84 = bt78.1 then ((laws_toStringS.f k l0).bind fun t89 => ((impl_PagesOf.f k t89 a1 a2).bind fun bt98 => ((laws_eqStringSS.f k bt98.1 bt17.1).bind fun t109 => (if t109 = true then (if bt98.2 = bt17.2 then ((laws_heldStringSS.f k bt78.2 1).bind fun t113 => (if ¬ t113 < 0 then (if t113 = bt78.1 then (some true) else none) else none)) else none) else none)))) else none) else none))) else none) else none)) else none)) else none))) else none) else none))))))))
set_option maxHeartbeats 4000000 in
set_option maxRecDepth 100000 in
theorem laws_FnExactPagesOf.calls (k : Nat) (A0 : Option Addr) (c0 : Nat) (l0 : List ByteArray) (a1 : Int) (a2 : ByteArray) (r : Bool) (w : World) (hr0 : Kd.C Kd.string w A0 l0.length l0) (hc0 : l0.length ≤ c0) (h : laws_FnExactPagesOf.f k l0 a1 a2 = some r) :
  Calls Try.prog 3 #[.slice A0 l0.length c0, .int .i64 a1, .string a2] w fun e w' => e = .returned (.bool r) ∧ Below w.heap.size w w' := by
 have HR0 := Aside0.mk hr0
 have HC0 := Aside0.mk hc0
 clear hr0 hc0
 have HB := Aside0.mk (Below.refl w.heap.size w)
 unfold laws_FnExactPagesOf.f at h
 by_cases c115 : (a2.size : Int) > 1048576
 ·rw [if_pos c115] at h
  have c115b : decide (1048576 < (a2.size : Int)) = true := decide_eq_true (by omega)
  clear c115
  obtain rfl := Option.some.inj h
  go_enter Try.func3, Try.ntmps3
  go_wp2
  go_ret
  exact ⟨eZ, bZ⟩
 rw [if_neg c115] at h
 have c115b : decide (1048576 < (a2.size : Int)) = false := decide_eq_false (by omega)
 clear c115
 replace h := Option.bind_eq_some_iff.mp h
 obtain ⟨t3, A1_, h⟩ := h
 try dsimp only at h
 have A1 := Aside0.mk A1_
 clear A1_
 by_cases c116 : t3 < 0
 ·rw [if_pos c116] at h
  have c116b : decide (t3 < 0) = true := decide_eq_true (by omega)
  clear c116
  obtain rfl := Option.some.inj h
  go_enter Try.func3, Try.ntmps3
  go_wp2_with fail
  refine (laws_szStringS.calls k _ _ l0 1048576 _ _ (Kd.C_below HR0.out HB.out) HC0.out A1.out).mono ?_
  rintro e w2 ⟨rfl, hd⟩
  have hb := hd.below
  have SZ4 := Aside0.mk hb.size
  replace HB := Aside0.mk (below_step HB.out hb)
  clear hb hd
  go_wp2
  go_ret
  exact ⟨eZ, bZ⟩
 rw [if_neg c116] at h
 have c116b : decide (t3 < 0) = false := decide_eq_false (by omega)
 clear c116
 replace h := Option.bind_eq_some_iff.mp h
 obtain ⟨t8, A6_, h⟩ := h
 try dsimp only at h
 have A6 := Aside0.mk A6_
 clear A6_
 replace h := Option.bind_eq_some_iff.mp h
 obtain ⟨⟨t17, t18⟩, A15_, h⟩ := h
 try dsimp only at h
 have A15 := Aside0.mk A15_
 clear A15_
 replace h := Option.bind_eq_some_iff.mp h
 obtain ⟨t28, A26_, h⟩ := h
 try dsimp only at h
 have A26 := Aside0.mk A26_
 clear A26_
 replace h := Option.bind_eq_some_iff.mp h
 obtain ⟨⟨t37, t38⟩, A35_, h⟩ := h
 try dsimp only at h
 have A35 := Aside0.mk A35_
 clear A35_
 replace h := Option.bind_eq_some_iff.mp h
 obtain ⟨t48, A46_, h⟩ := h
 try dsimp only at h
 have A46 := Aside0.mk A46_
 clear A46_
 by_cases c117 : t48 = true
 rotate_left
 ·rw [if_neg c117] at h; exact absurd h (by simp)
 rw [if_pos c117] at h
 subst c117
 by_cases c118 : t38 = t18
 rotate_left
 ·rw [if_neg c118] at h; exact absurd h (by simp)
 rw [if_pos c118] at h
 have c118b : (t38 != t18) = false := by rw [c118]; simp
 clear c118
 replace h := Option.bind_eq_some_iff.mp h
 obtain ⟨t53, A51_, h⟩ := h
 try dsimp only at h
 have A51 := Aside0.mk A51_
 clear A51_
 replace h := Option.bind_eq_some_iff.mp h
 obtain ⟨t63, A61_, h⟩ := h
 try dsimp only at h
 have A61 := Aside0.mk A61_
 clear A61_
 by_cases c119 : t63 = true
 rotate_left
 ·rw [if_neg c119] at h; exact absurd h (by simp)
 rw [if_pos c119] at h
 subst c119
 replace h := Option.bind_eq_some_iff.mp h
 obtain ⟨⟨t67, t68⟩, A65_, h⟩ := h
 try dsimp only at h
 have A65 := Aside0.mk A65_
 clear A65_
 by_cases c120 : ¬ t67 < 0
 rotate_left
 ·rw [if_neg c120] at h; exact absurd h (by simp)
 rw [if_pos c120] at h
 have c120b : decide (t67 < 0) = false := decide_eq_false c120
 clear c120
 replace h := Option.bind_eq_some_iff.mp h
 obtain ⟨t74, A72_, h⟩ := h
 try dsimp only at h
 have A72 := Aside0.mk A72_
 clear A72_
 by_cases c121 : t74 = true
 rotate_left
 ·rw [if_neg c121] at h; exact absurd h (by simp)
 rw [if_pos c121] at h
 subst c121
 by_cases c122 : t38 = t18
 rotate_left
 ·rw [if_neg c122] at h; exact absurd h (by simp)
 rw [if_pos c122] at h
 have c122b : (t38 != t18) = false := by rw [c122]; simp
 clear c122
 replace h := Option.bind_eq_some_iff.mp h
 obtain ⟨⟨t78, t79⟩, A76_, h⟩ := h
 try dsimp only at h
 have A76 := Aside0.mk A76_
 clear A76_
 replace h := Option.bind_eq_some_iff.mp h
 obtain ⟨t84, A82_, h⟩ := h
 try dsimp only at h
 have A82 := Aside0.mk A82_
 clear A82_
 by_cases c123 : ¬ t84 < 0
 rotate_left
 ·rw [if_neg c123] at h; exact absurd h (by simp)
 rw [if_pos c123] at h
 have c123b : decide (t84 < 0) = false := decide_eq_false c123
 clear c123
 by_cases c124 : t84 = t78
 rotate_left
 ·rw [if_neg c124] at h; exact absurd h (by simp)
 rw [if_pos c124] at h
 have c124b : (t84 != t78) = false := by rw [c124]; simp
 clear c124
 replace h := Option.bind_eq_some_iff.mp h
 obtain ⟨t89, A87_, h⟩ := h
 try dsimp only at h
 have A87 := Aside0.mk A87_
 clear A87_
 replace h := Option.bind_eq_some_iff.mp h
 obtain ⟨⟨t98, t99⟩, A96_, h⟩ := h
 try dsimp only at h
 have A96 := Aside0.mk A96_
 clear A96_
 replace h := Option.bind_eq_some_iff.mp h
 obtain ⟨t109, A107_, h⟩ := h
 try dsimp only at h
 have A107 := Aside0.mk A107_
 clear A107_
 by_cases c125 : t109 = true
 rotate_left
 ·rw [if_neg c125] at h; exact absurd h (by simp)
 rw [if_pos c125] at h
 subst c125
 by_cases c126 : t99 = t18
 rotate_left
 ·rw [if_neg c126] at h; exact absurd h (by simp)
 rw [if_pos c126] at h
 have c126b : (t99 != t18) = false := by rw [c126]; simp
 clear c126
 replace h := Option.bind_eq_some_iff.mp h
 obtain ⟨t113, A111_, h⟩ := h
 try dsimp only at h
 have A111 := Aside0.mk A111_
 clear A111_
 by_cases c127 : ¬ t113 < 0
 rotate_left
 ·rw [if_neg c127] at h; exact absurd h (by simp)
 rw [if_pos c127] at h
 have c127b : decide (t113 < 0) = false := decide_eq_false c127
 clear c127
 by_cases c128 : t113 = t78
 rotate_left
 ·rw [if_neg c128] at h; exact absurd h (by simp)
 rw [if_pos c128] at h
 have c128b : (t113 != t78) = false := by rw [c128]; simp
 clear c128
 obtain rfl := Option.some.inj h
 go_enter Try.func3, Try.ntmps3
 go_wp2_with fail
 refine (laws_szStringS.calls k _ _ l0 1048576 _ _ (Kd.C_below HR0.out HB.out) HC0.out A1.out).mono ?_
 rintro e w2 ⟨rfl, hd⟩
 have hb := hd.below
 have SZ4 := Aside0.mk hb.size
 replace HB := Aside0.mk (below_step HB.out hb)
 clear hb hd
 go_wp2_with fail
 refine (laws_toStringS.calls k _ _ l0 _ _ (Kd.C_below HR0.out HB.out) HC0.out A6.out).mono ?_
 rintro e w7 ⟨v9, rfl, ho10, hb⟩
 have SZ11 := Aside0.mk hb.size
 obtain ⟨Ao13, co14, rfl⟩ := Kd.R_slice ho10
 have F12 := Aside0.mk (Kd.R_lower (Kd.R_mono (ok' := fun k_ => w2.heap.size ≤ k_ ∧ k_ < w7.heap.size) (Kd.R_bound ho10) (fun k_ hk_ => ⟨hk_.2.1, hk_.2.2.1⟩)) HB.out.size)
 clear ho10
 replace HB := Aside0.mk (below_step HB.out hb)
 clear hb
 go_wp2_with fail
 refine (spec_PagesOf.calls k _ _ t8 a1 a2 _ _ _ (Kd.R_reads' F12.out).2.2 (by rw [← (Kd.R_reads' F12.out).1]; exact (Kd.R_reads' F12.out).2.1) A15.out).mono ?_
 rintro e w16 ⟨v19, rfl, ho20, hb⟩
 have SZ21 := Aside0.mk hb.size
 replace F12 := Aside0.mk (Kd.R_below F12.out hb)
 obtain ⟨Ao23, co24, rfl⟩ := Kd.S_slice ho20
 have F22 := Aside0.mk (Kd.S_lower (Kd.S_mono (ok' := fun k_ => w7.heap.size ≤ k_ ∧ k_ < w16.heap.size) (Kd.S_bound ho20) (fun k_ hk_ => ⟨hk_.2.1, hk_.2.2.1⟩)) HB.out.size)
 clear ho20
 replace HB := Aside0.mk (below_step HB.out hb)
 clear hb
 go_wp2_with fail
 refine (laws_toStringS.calls k _ _ l0 _ _ (Kd.C_below HR0.out HB.out) HC0.out A26.out).mono ?_
 rintro e w27 ⟨v29, rfl, ho30, hb⟩
 have SZ31 := Aside0.mk hb.size
 replace F12 := Aside0.mk (Kd.R_below F12.out hb)
 replace F22 := Aside0.mk (Kd.S_below F22.out hb)
 obtain ⟨Ao33, co34, rfl⟩ := Kd.R_slice ho30
 have F32 := Aside0.mk (Kd.R_lower (Kd.R_mono (ok' := fun k_ => w16.heap.size ≤ k_ ∧ k_ < w27.heap.size) (Kd.R_bound ho30) (fun k_ hk_ => ⟨hk_.2.1, hk_.2.2.1⟩)) HB.out.size)
 clear ho30
 replace HB := Aside0.mk (below_step HB.out hb)
 clear hb
 go_wp2_with fail
 refine (impl_PagesOf.calls k _ _ t28 a1 a2 _ _ _ (Kd.R_reads' F32.out).2.2 (by rw [← (Kd.R_reads' F32.out).1]; exact (Kd.R_reads' F32.out).2.1) A35.out).mono ?_
 rintro e w36 ⟨v39, rfl, ho40, hb⟩
 have SZ41 := Aside0.mk hb.size
 replace F12 := Aside0.mk (Kd.R_below F12.out hb)
 replace F22 := Aside0.mk (Kd.S_below F22.out hb)
 replace F32 := Aside0.mk (Kd.R_below F32.out hb)
 obtain ⟨Ao43, co44, rfl⟩ := Kd.S_slice ho40
 have F42 := Aside0.mk (Kd.S_lower (Kd.S_mono (ok' := fun k_ => w27.heap.size ≤ k_ ∧ k_ < w36.heap.size) (Kd.S_bound ho40) (fun k_ hk_ => ⟨hk_.2.1, hk_.2.2.1⟩)) HB.out.size)
 clear ho40
 replace HB := Aside0.mk (below_step HB.out hb)
 clear hb
 go_wp2_with fail
 refine (laws_eqStringSS.calls k _ _ t37 _ _ t17 _ _ (Kd.S_reads' F42.out).2.2 (by rw [← (Kd.S_reads' F42.out).1]; exact (Kd.S_reads' F42.out).2.1) (Kd.S_reads' F22.out).2.2 (by rw [← (Kd.S_reads' F22.out).1]; exact (Kd.S_reads' F22.out).2.1) A46.out).mono ?_
 rintro e w47 ⟨rfl, hd⟩
 have hb := hd.below
 have SZ49 := Aside0.mk hb.size
 replace F12 := Aside0.mk (Kd.R_below F12.out hb)
 replace F22 := Aside0.mk (Kd.S_below F22.out hb)
 replace F32 := Aside0.mk (Kd.R_below F32.out hb)
 replace F42 := Aside0.mk (Kd.S_below F42.out hb)
 replace HB := Aside0.mk (below_step HB.out hb)
 clear hb hd
 go_wp2_with fail
 refine (laws_toStringS.calls k _ _ l0 _ _ (Kd.C_below HR0.out HB.out) HC0.out A51.out).mono ?_
 rintro e w52 ⟨v54, rfl, ho55, hb⟩
 have SZ56 := Aside0.mk hb.size
 replace F12 := Aside0.mk (Kd.R_below F12.out hb)
 replace F22 := Aside0.mk (Kd.S_below F22.out hb)
 replace F32 := Aside0.mk (Kd.R_below F32.out hb)
 replace F42 := Aside0.mk (Kd.S_below F42.out hb)
 obtain ⟨Ao58, co59, rfl⟩ := Kd.R_slice ho55
 have F57 := Aside0.mk (Kd.R_lower (Kd.R_mono (ok' := fun k_ => w47.heap.size ≤ k_ ∧ k_ < w52.heap.size) (Kd.R_bound ho55) (fun k_ hk_ => ⟨hk_.2.1, hk_.2.2.1⟩)) HB.out.size)
 clear ho55
 replace HB := Aside0.mk (below_step HB.out hb)
 clear hb
 go_wp2_with fail
 refine (laws_eqStringS.calls k _ _ t28 _ _ t53 _ _ (Kd.R_reads' F32.out).2.2 (by rw [← (Kd.R_reads' F32.out).1]; exact (Kd.R_reads' F32.out).2.1) (Kd.R_reads' F57.out).2.2 (by rw [← (Kd.R_reads' F57.out).1]; exact (Kd.R_reads' F57.out).2.1) A61.out).mono ?_
 rintro e w62 ⟨rfl, hd⟩
 have hb := hd.below
 have SZ64 := Aside0.mk hb.size
 replace F12 := Aside0.mk (Kd.R_below F12.out hb)
 replace F22 := Aside0.mk (Kd.S_below F22.out hb)
 replace F32 := Aside0.mk (Kd.R_below F32.out hb)
 replace F42 := Aside0.mk (Kd.S_below F42.out hb)
 replace F57 := Aside0.mk (Kd.R_below F57.out hb)
 replace HB := Aside0.mk (below_step HB.out hb)
 clear hb hd
 go_wp2_with fail
 refine (laws_markStringS.calls k (fun k_ => w16.heap.size ≤ k_ ∧ k_ < w27.heap.size) _ t28 1 _ _ w _ HB.out F32.out A65.out).mono ?_
 rintro e w66 ⟨rfl, ho69, hb, hk⟩
 have SZ70 := Aside0.mk hk.1
 replace F12 := Aside0.mk (Kd.R_step F12.out (fun k_ ho_ hlt_ => hk.2 k_ hlt_ (by have := SZ4.out; have := SZ11.out; have := SZ21.out; have := SZ31.out; have := SZ41.out; have := SZ49.out; have := SZ56.out; have := SZ64.out; have := SZ70.out; omega)))
 replace F22 := Aside0.mk (Kd.S_step F22.out (fun k_ ho_ hlt_ => hk.2 k_ hlt_ (by have := SZ4.out; have := SZ11.out; have := SZ21.out; have := SZ31.out; have := SZ41.out; have := SZ49.out; have := SZ56.out; have := SZ64.out; have := SZ70.out; omega)))
 replace F42 := Aside0.mk (Kd.S_step F42.out (fun k_ ho_ hlt_ => hk.2 k_ hlt_ (by have := SZ4.out; have := SZ11.out; have := SZ21.out; have := SZ31.out; have := SZ41.out; have := SZ49.out; have := SZ56.out; have := SZ64.out; have := SZ70.out; omega)))
 replace F57 := Aside0.mk (Kd.R_step F57.out (fun k_ ho_ hlt_ => hk.2 k_ hlt_ (by have := SZ4.out; have := SZ11.out; have := SZ21.out; have := SZ31.out; have := SZ41.out; have := SZ49.out; have := SZ56.out; have := SZ64.out; have := SZ70.out; omega)))
 replace F32 := Aside0.mk (Kd.R_mono (Kd.R_tight rfl ho69) (fun k_ hk_ => F32.out.1 k_ hk_.symm))
 replace HB := Aside0.mk hb
 clear hb hk ho69
 go_wp2_with fail
 refine (laws_eqStringSS.calls k _ _ t37 _ _ t17 _ _ (Kd.S_reads' F42.out).2.2 (by rw [← (Kd.S_reads' F42.out).1]; exact (Kd.S_reads' F42.out).2.1) (Kd.S_reads' F22.out).2.2 (by rw [← (Kd.S_reads' F22.out).1]; exact (Kd.S_reads' F22.out).2.1) A72.out).mono ?_
 rintro e w73 ⟨rfl, hd⟩
 have hb := hd.below
 have SZ75 := Aside0.mk hb.size
 replace F12 := Aside0.mk (Kd.R_below F12.out hb)
 replace F22 := Aside0.mk (Kd.S_below F22.out hb)
 replace F32 := Aside0.mk (Kd.R_below F32.out hb)
 replace F42 := Aside0.mk (Kd.S_below F42.out hb)
 replace F57 := Aside0.mk (Kd.R_below F57.out hb)
 replace HB := Aside0.mk (below_step HB.out hb)
 clear hb hd
 go_wp2_with fail
 refine (laws_markStringSS.calls k (fun k_ => w27.heap.size ≤ k_ ∧ k_ < w36.heap.size) _ t37 1 _ _ w _ HB.out F42.out A76.out).mono ?_
 rintro e w77 ⟨rfl, ho80, hb, hk⟩
 have SZ81 := Aside0.mk hk.1
 replace F12 := Aside0.mk (Kd.R_step F12.out (fun k_ ho_ hlt_ => hk.2 k_ hlt_ (by have := SZ4.out; have := SZ11.out; have := SZ21.out; have := SZ31.out; have := SZ41.out; have := SZ49.out; have := SZ56.out; have := SZ64.out; have := SZ70.out; have := SZ75.out; have := SZ81.out; omega)))
 replace F22 := Aside0.mk (Kd.S_step F22.out (fun k_ ho_ hlt_ => hk.2 k_ hlt_ (by have := SZ4.out; have := SZ11.out; have := SZ21.out; have := SZ31.out; have := SZ41.out; have := SZ49.out; have := SZ56.out; have := SZ64.out; have := SZ70.out; have := SZ75.out; have := SZ81.out; omega)))
 replace F32 := Aside0.mk (Kd.R_step F32.out (fun k_ ho_ hlt_ => hk.2 k_ hlt_ (by have := SZ4.out; have := SZ11.out; have := SZ21.out; have := SZ31.out; have := SZ41.out; have := SZ49.out; have := SZ56.out; have := SZ64.out; have := SZ70.out; have := SZ75.out; have := SZ81.out; omega)))
 replace F57 := Aside0.mk (Kd.R_step F57.out (fun k_ ho_ hlt_ => hk.2 k_ hlt_ (by have := SZ4.out; have := SZ11.out; have := SZ21.out; have := SZ31.out; have := SZ41.out; have := SZ49.out; have := SZ56.out; have := SZ64.out; have := SZ70.out; have := SZ75.out; have := SZ81.out; omega)))
 replace F42 := Aside0.mk ho80
 replace HB := Aside0.mk hb
 clear hb hk ho80
 go_wp2_with fail
 refine calls_of_args (args' := #[.slice Ao43 t79.length co44, .int .i64 (1)]) (by rw [show t37.length = t79.length from (Kd.S_reads' F42.out).1]) ?_
 refine (laws_heldStringSS.calls k _ _ t79 1 _ _ (Kd.S_reads' F42.out).2.2 (by rw [← (Kd.S_reads' F42.out).1]; exact (Kd.S_reads' F42.out).2.1) A82.out).mono ?_
 rintro e w83 ⟨rfl, hb⟩
 have SZ85 := Aside0.mk hb.size
 replace F12 := Aside0.mk (Kd.R_below F12.out hb)
 replace F22 := Aside0.mk (Kd.S_below F22.out hb)
 replace F32 := Aside0.mk (Kd.R_below F32.out hb)
 replace F42 := Aside0.mk (Kd.S_below F42.out hb)
 replace F57 := Aside0.mk (Kd.R_below F57.out hb)
 replace HB := Aside0.mk (below_step HB.out hb)
 clear hb
 go_wp2_with fail
 refine (laws_toStringS.calls k _ _ l0 _ _ (Kd.C_below HR0.out HB.out) HC0.out A87.out).mono ?_
 rintro e w88 ⟨v90, rfl, ho91, hb⟩
 have SZ92 := Aside0.mk hb.size
 replace F12 := Aside0.mk (Kd.R_below F12.out hb)
 replace F22 := Aside0.mk (Kd.S_below F22.out hb)
 replace F32 := Aside0.mk (Kd.R_below F32.out hb)
 replace F42 := Aside0.mk (Kd.S_below F42.out hb)
 replace F57 := Aside0.mk (Kd.R_below F57.out hb)
 obtain ⟨Ao94, co95, rfl⟩ := Kd.R_slice ho91
 have F93 := Aside0.mk (Kd.R_lower (Kd.R_mono (ok' := fun k_ => w83.heap.size ≤ k_ ∧ k_ < w88.heap.size) (Kd.R_bound ho91) (fun k_ hk_ => ⟨hk_.2.1, hk_.2.2.1⟩)) HB.out.size)
 clear ho91
 replace HB := Aside0.mk (below_step HB.out hb)
 clear hb
 go_wp2_with fail
 refine (impl_PagesOf.calls k _ _ t89 a1 a2 _ _ _ (Kd.R_reads' F93.out).2.2 (by rw [← (Kd.R_reads' F93.out).1]; exact (Kd.R_reads' F93.out).2.1) A96.out).mono ?_
 rintro e w97 ⟨v100, rfl, ho101, hb⟩
 have SZ102 := Aside0.mk hb.size
 replace F12 := Aside0.mk (Kd.R_below F12.out hb)
 replace F22 := Aside0.mk (Kd.S_below F22.out hb)
 replace F32 := Aside0.mk (Kd.R_below F32.out hb)
 replace F42 := Aside0.mk (Kd.S_below F42.out hb)
 replace F57 := Aside0.mk (Kd.R_below F57.out hb)
 replace F93 := Aside0.mk (Kd.R_below F93.out hb)
 obtain ⟨Ao104, co105, rfl⟩ := Kd.S_slice ho101
 have F103 := Aside0.mk (Kd.S_lower (Kd.S_mono (ok' := fun k_ => w88.heap.size ≤ k_ ∧ k_ < w97.heap.size) (Kd.S_bound ho101) (fun k_ hk_ => ⟨hk_.2.1, hk_.2.2.1⟩)) HB.out.size)
 clear ho101
 replace HB := Aside0.mk (below_step HB.out hb)
 clear hb
 go_wp2_with fail
 refine (laws_eqStringSS.calls k _ _ t98 _ _ t17 _ _ (Kd.S_reads' F103.out).2.2 (by rw [← (Kd.S_reads' F103.out).1]; exact (Kd.S_reads' F103.out).2.1) (Kd.S_reads' F22.out).2.2 (by rw [← (Kd.S_reads' F22.out).1]; exact (Kd.S_reads' F22.out).2.1) A107.out).mono ?_
 rintro e w108 ⟨rfl, hd⟩
 have hb := hd.below
 have SZ110 := Aside0.mk hb.size
 replace F12 := Aside0.mk (Kd.R_below F12.out hb)
 replace F22 := Aside0.mk (Kd.S_below F22.out hb)
 replace F32 := Aside0.mk (Kd.R_below F32.out hb)
 replace F42 := Aside0.mk (Kd.S_below F42.out hb)
 replace F57 := Aside0.mk (Kd.R_below F57.out hb)
 replace F93 := Aside0.mk (Kd.R_below F93.out hb)
 replace F103 := Aside0.mk (Kd.S_below F103.out hb)
 replace HB := Aside0.mk (below_step HB.out hb)
 clear hb hd
 go_wp2_with fail
 refine calls_of_args (args' := #[.slice Ao43 t79.length co44, .int .i64 (1)]) (by rw [show t37.length = t79.length from (Kd.S_reads' F42.out).1]) ?_
 refine (laws_heldStringSS.calls k _ _ t79 1 _ _ (Kd.S_reads' F42.out).2.2 (by rw [← (Kd.S_reads' F42.out).1]; exact (Kd.S_reads' F42.out).2.1) A111.out).mono ?_
 rintro e w112 ⟨rfl, hb⟩
 have SZ114 := Aside0.mk hb.size
 replace F12 := Aside0.mk (Kd.R_below F12.out hb)
 replace F22 := Aside0.mk (Kd.S_below F22.out hb)
 replace F32 := Aside0.mk (Kd.R_below F32.out hb)
 replace F42 := Aside0.mk (Kd.S_below F42.out hb)
 replace F57 := Aside0.mk (Kd.R_below F57.out hb)
 replace F93 := Aside0.mk (Kd.R_below F93.out hb)
 replace F103 := Aside0.mk (Kd.S_below F103.out hb)
 replace HB := Aside0.mk (below_step HB.out hb)
 clear hb
 go_wp2
 go_ret
 exact ⟨eZ, bZ⟩
end Go.Proofs.Ytpkcjkfkohmcfaa.XN
end

section
namespace Go.Proofs.Ytpkcjkfkohmcfaa.Open
open Go.ChangeShapes Go.WideShapes Go.RowKit Go.Proofs.YtpkcjkfkohmcfaaW.PrintWords
set_option linter.unusedVariables false
def Opens (P : Program) (t : TypeId) {α : Type} (d : Kd α) (Q : α → Prop) : Prop :=
  P.cellsOf t = d.sz ∧ ∀ (H : Type) (enc : TypeId × Value → H) (w : World) (base : Nat) (spare : Nat → Bool) (held : Bool) (fuel : Nat) (cs : List Value) (x : DataW H × List MemPlace),
    DataW.trod enc P w base spare held fuel t cs = some x → ∃ a : α, d.K w a cs ∧ Q a
theorem Opens.int {P : Program} {t : TypeId} {k : IntKind} (hu : P.underlying t = some (.int k)) (hc : P.cellsOf t = 1) : Opens P t (Kd.int k) (fun n => (Lit.int k n).wf = true) := by
  refine ⟨hc, fun H enc w base spare held fuel cs x h => ?_⟩
  obtain ⟨n, rfl, _, hw⟩ := DataW.trod_int hu h
  exact ⟨n, rfl, hw⟩
theorem Opens.bool {P : Program} {t : TypeId} (hu : P.underlying t = some .bool) (hc : P.cellsOf t = 1) : Opens P t Kd.bool (fun _ => True) := by
  refine ⟨hc, fun H enc w base spare held fuel cs x h => ?_⟩
  obtain ⟨b, rfl, _⟩ := DataW.trod_bool hu h
  exact ⟨b, rfl, trivial⟩
theorem Opens.string {P : Program} {t : TypeId} (hu : P.underlying t = some .string) (hc : P.cellsOf t = 1) : Opens P t Kd.string (fun s => s.size ≤ maxLen) := by
  refine ⟨hc, fun H enc w base spare held fuel cs x h => ?_⟩
  obtain ⟨s, rfl, _, hs⟩ := DataW.trod_string hu h
  exact ⟨s, rfl, hs⟩
theorem choose_list {α : Type} {n : Nat} {p : Nat → α → Prop} (h : ∀ i, i < n → ∃ x, p i x) : ∃ l : List α, l.length = n ∧ ∀ i x, l[i]? = some x → p i x := by
  induction n with
  | zero => exact ⟨[], rfl, fun i x hx => by simp at hx⟩
  | succ n ih =>
    obtain ⟨l, hl, hp⟩ := ih (fun i hi => h i (by omega))
    obtain ⟨x, hx⟩ := h n (by omega)
    refine ⟨l ++ [x], by simp [hl], fun i y hy => ?_⟩
    rcases Nat.lt_or_ge i l.length with hi | hi
    · rw [List.getElem?_append_left hi] at hy
      exact hp i y hy
    · have : i = l.length := by
        have := (List.getElem?_eq_some_iff.1 hy).1
        simp at this
        omega
      subst this
      simp at hy
      subst hy
      rw [hl]
      exact hx
theorem cells?_get {w : World} {base : Nat} {a : Addr} {n : Nat} {cs : List Value} (h : w.cells? base a n = some cs) (i : Nat) (u : Value) (hu : cs[i]? = some u) : w.cell? (a.add i) = some u := by
  unfold World.cells? at h
  split at h
  · have hlen : cs.length = n := by simpa using mapM_some_length h
    have hi : i < n := by
      have := (List.getElem?_eq_some_iff.1 hu).1
      omega
    have := mapM_some_get h i i (by simp [hi])
    rw [hu] at this
    exact this
  · cases h
theorem Opens.slice {P : Program} {t e : TypeId} {α : Type} {d : Kd α} {Q : α → Prop} (hu : P.underlying t = some (.slice e)) (hc : P.cellsOf t = 1) (hd : Opens P e d Q) :
    Opens P t (Kd.slice e d) (fun xs => xs.length ≤ maxLen ∧ ∀ x ∈ xs, Q x) := by
  refine ⟨hc, fun H enc w base spare held fuel cs x h => ?_⟩
  rcases Go.Deep.open_slice hu h with ⟨rfl, _⟩ | ⟨a, len, cap, m, n, D, Pl, rfl, _, hl, hm, hmm, _, hx⟩
  · exact ⟨[], ⟨none, 0, rfl, Nat.le_refl _, rfl, by simp, fun h => absurd h (by simp)⟩, by simp, fun x hx => by simp at hx⟩
  · have hlm : len ≤ m := by rw [hmm]; split <;> omega
    obtain ⟨l, hl1, hp⟩ := choose_list (n := len) (p := fun i (x : α) => ∃ cs', w.cells? base (a.add (i * d.sz)) d.sz = some cs' ∧ d.K w x cs' ∧ Q x) (fun i hi => by
      obtain ⟨cs', h1, h2⟩ := hx i (by omega)
      rw [hd.1] at h1
      obtain ⟨y, hy, hq⟩ := hd.2 H enc w base spare held n cs' _ h2
      exact ⟨y, cs', h1, hy, hq⟩)
    have hmax : (maxLen : Nat) = 9223372036854775807 := by unfold maxLen; omega
    refine ⟨l, ⟨some a, cap, by rw [hl1], by omega, rfl, by omega, fun _ => ⟨a, rfl, fun j p hj => ?_⟩⟩, by omega, fun x hx => ?_⟩
    · obtain ⟨cs', h1, h2, _⟩ := hp j p hj
      refine ⟨cs', d.K_len h2, h2, fun i u hi => ?_⟩
      have := cells?_get h1 i u hi
      rwa [Go.Deep.add_add] at this
    · obtain ⟨i, hi, rfl⟩ := List.mem_iff_getElem.1 hx
      obtain ⟨cs', _, _, h3⟩ := hp i _ (List.getElem?_eq_getElem hi)
      exact h3
def OpensF (P : Program) (fs : List Field) (off : Nat) {α : Type} (d : Kd α) (Q : α → Prop) : Prop :=
  ∀ (H : Type) (enc : TypeId × Value → H) (w : World) (base : Nat) (spare : Nat → Bool) (held : Bool) (n : Nat) (cs : List Value), off + d.sz = cs.length →
    (∀ f ∈ fs, ∃ y, DataW.trod enc P w base spare held n f.type ((cs.drop f.offset).take (P.cellsOf f.type)) = some y) → ∃ a : α, d.K w a (cs.drop off) ∧ Q a
theorem OpensF.one {P : Program} {f : Field} {off : Nat} {α : Type} {d : Kd α} {Q : α → Prop} (ho : f.offset = off) (h : Opens P f.type d Q) : OpensF P [f] off d Q := by
  intro H enc w base spare held n cs hl hf
  obtain ⟨y, hy⟩ := hf f List.mem_cons_self
  rw [ho, h.1, List.take_of_length_le (by rw [List.length_drop]; omega)] at hy
  exact h.2 H enc w base spare held n _ y hy
theorem OpensF.cons {P : Program} {f : Field} {fs : List Field} {off : Nat} {α β : Type} {d1 : Kd α} {d2 : Kd β} {Q1 : α → Prop} {Q2 : β → Prop} (ho : f.offset = off) (h : Opens P f.type d1 Q1) (hs : OpensF P fs (off + d1.sz) d2 Q2) :
    OpensF P (f :: fs) off (Kd.pair d1 d2) (fun x => Q1 x.1 ∧ Q2 x.2) := by
  intro H enc w base spare held n cs hl hf
  have hl' : off + (d1.sz + d2.sz) = cs.length := hl
  obtain ⟨y, hy⟩ := hf f List.mem_cons_self
  rw [ho, h.1] at hy
  obtain ⟨a, ha, qa⟩ := h.2 H enc w base spare held n _ y hy
  obtain ⟨b, hb, qb⟩ := hs H enc w base spare held n cs (by omega) (fun g hg => hf g (List.mem_cons_of_mem _ hg))
  refine ⟨(a, b), ⟨_, _, ?_, ha, hb⟩, qa, qb⟩
  rw [← List.drop_drop, List.take_append_drop]
theorem open_sl {H : Type} {enc : TypeId × Value → H} {P : Program} {W : World} {base B : Nat} {spare : Nat → Bool} {held : Bool} {t e : TypeId} {v : Value} {dd : DataW H} {ps : List MemPlace} {α : Type} {d : Kd α} {Q : α → Prop}
    (hu : P.underlying t = some (.slice e)) (hc : P.cellsOf t = 1) (hd : Opens P e d Q) (hv : Value.okWide P W .any B t v) (h : DataW.Trod enc P W base spare held t v dd ps) :
    ∃ (A : Option Addr) (c : Nat) (l : List α), v = .slice A l.length c ∧ l.length ≤ c ∧ Kd.C d W A l.length l ∧ l.length ≤ maxLen ∧ ∀ x ∈ l, Q x := by
  obtain ⟨a0, len, cap, rfl⟩ := okWide_slice hu hv
  obtain ⟨fuel, hf⟩ := h
  obtain ⟨l, ⟨A, c, he, hl, hC⟩, hm, hq⟩ := (Opens.slice hu hc hd).2 H enc W base spare held fuel _ _ hf
  refine ⟨A, c, l, ?_, hl, hC, hm, hq⟩
  simpa [Value.cells] using he
end Go.Proofs.Ytpkcjkfkohmcfaa.Open
end

section
namespace Go.Proofs.Ytpkcjkfkohmcfaa.XN
open Go.RowKit Go.Proofs.YtpkcjkfkohmcfaaW.PrintWords
def laws_FnExactPagesOf.Pure : Prop := ∀ (a0 : List ByteArray), ∀ (a1 : Int), ∀ (a2 : ByteArray), ((a0.length ≤ maxLen ∧ ∀ y2 ∈ a0, y2.size ≤ maxLen)) → ((Lit.int .i64 a1).wf = true) → (a2.size ≤ 140737488351232) → ∃ k, laws_FnExactPagesOf.f k a0 a1 a2 = some true
end Go.Proofs.Ytpkcjkfkohmcfaa.XN
end
