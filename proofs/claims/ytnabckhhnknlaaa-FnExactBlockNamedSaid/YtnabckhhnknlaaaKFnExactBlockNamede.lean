/- The law FnExactBlockNamed: part 4 of its texts, joined (wip/pack.py). -/
import Derived.Test.YtnabckhhnknlaaaKFnExactBlockNameda
import Derived.Test.YtnabckhhnknlaaaKFnExactBlockNamedb
import Derived.Test.YtnabckhhnknlaaaKFnExactBlockNamedc
import Derived.Test.YtnabckhhnknlaaaKFnExactBlockNamedd
import Derived.Deep.Slices
import Derived.SizedLaws
import Derived.ChangeArms
import Derived.WideShapes
import Derived.KernelRfl
import Derived.Lib.Strings
import Derived.Lib.IndexLaws
import Derived.Lib.IndexBytes
import Derived.Lib.IndexMore
import Derived.Test.YtnabckhhnknlaaaRows
import Derived.WalkKit
import Derived.ProofKit
import Derived.OpenShut
import Derived.ShutString
import Derived.ChangeOld
import Derived.Below
import Derived.HandedShaped

section
namespace Go.Proofs.Ytnabckhhnknlaaa.XD
open Go.RowKit Go.Proofs.YtnabckhhnknlaaaW.PrintWords Go.Proofs.YtnabckhhnknlaaaW.PrintLast Go.Proofs.YtnabckhhnknlaaaW.PrintMore
attribute [local go_sem] run_eql_slice_nil binOp_string_gtr' binOp_string_leq' binOp_string_geq' max2_int min2_int max_two min_two max_three min_three max_four min_four   -- for this text's walks alone
set_option linter.unusedVariables false
set_option linter.unusedSimpArgs false
def spec_BlockNamed.f (k : Nat) (l0 : List (S45)) (a1 : ByteArray) (a2 : ByteArray) : Option (ByteArray × Int) := (spec_l29Ok.f k l0).bind fun t215 => (if t215 = true then ((spec_l29Find.f k l0 a1 a2).bind fun t216 => (if t216 < 0 then (some ((⟨#[]⟩ : ByteArray), 3)) else (if 0 ≤ t216 then (if t216 < (l0.length : Int) then (some ((rd_T45 l0 t216).f2, 0)) else (none)) else (none)))) else (some ((⟨#[]⟩ : ByteArray), 1)))
set_option maxHeartbeats 8000000 in
set_option maxRecDepth 100000 in
theorem spec_BlockNamed.calls (k : Nat) (A0 : Option Addr) (c0 : Nat) (l0 : List (S45)) (a1 : ByteArray) (a2 : ByteArray) (r1 : ByteArray) (r2 : Int) (w : World) (hr0 : Kd.C k45 w A0 l0.length l0) (hc0 : l0.length ≤ c0) (h : spec_BlockNamed.f k l0 a1 a2 = some (r1, r2)) :
    Calls Try.prog 15 #[.slice A0 l0.length c0, .string a1, .string a2] w fun e w' => e = .returned (.tuple #[.string r1, .int .i64 r2]) ∧ Drawn0 w w' := by
  have HR0 := Aside0.mk hr0
  have HC0 := Aside0.mk hc0
  clear hr0 hc0
  have H : ((spec_l29Ok.f k l0).bind fun t215 => (if t215 = true then ((spec_l29Find.f k l0 a1 a2).bind fun t216 => (if t216 < 0 then (some ((⟨#[]⟩ : ByteArray), 3)) else (if 0 ≤ t216 then (if t216 < (l0.length : Int) then (some ((rd_T45 l0 t216).f2, 0)) else (none)) else (none)))) else (some ((⟨#[]⟩ : ByteArray), 1)))) = some (r1, r2) := h
  clear h
  replace H := Option.bind_eq_some_iff.mp H
  obtain ⟨t215, A40, H⟩ := H
  replace H : (if t215 = true then ((spec_l29Find.f k l0 a1 a2).bind fun t216 => (if t216 < 0 then (some ((⟨#[]⟩ : ByteArray), 3)) else (if 0 ≤ t216 then (if t216 < (l0.length : Int) then (some ((rd_T45 l0 t216).f2, 0)) else (none)) else (none)))) else (some ((⟨#[]⟩ : ByteArray), 1))) = some (r1, r2) := H
  have A4 := Aside0.mk A40
  clear A40
  by_cases c5 : t215 = true
  · subst c5
    have H1 : ((spec_l29Find.f k l0 a1 a2).bind fun t216 => (if t216 < 0 then (some ((⟨#[]⟩ : ByteArray), 3)) else (if 0 ≤ t216 then (if t216 < (l0.length : Int) then (some ((rd_T45 l0 t216).f2, 0)) else (none)) else (none)))) = some (r1, r2) := by rw [if_pos rfl] at H; exact H
    clear H
    have H := H1
    clear H1
    replace H := Option.bind_eq_some_iff.mp H
    obtain ⟨t216, A60, H⟩ := H
    replace H : (if t216 < 0 then (some ((⟨#[]⟩ : ByteArray), 3)) else (if 0 ≤ t216 then (if t216 < (l0.length : Int) then (some ((rd_T45 l0 t216).f2, 0)) else (none)) else (none))) = some (r1, r2) := H
    have A6 := Aside0.mk A60
    clear A60
    by_cases c7 : t216 < 0
    · rw [if_pos c7] at H
      have c7b0 : decide (t216 < 0) = true := decide_eq_true c7
      clear c7
      simp only [Option.some.injEq, Prod.mk.injEq] at H
      obtain ⟨rfl, rfl⟩ := H
      go_enter Try.func15, Try.ntmps15
      go_wp2_with (first | ((with_reducible refine gate_callee (f := 35) rfl ?_); refine goesL_ (some 10) rfl rfl Try.func35 (by kernel_rfl) rfl #[.slice A0 l0.length c0] rfl (by (try simp only [List.map_toArray, List.map_cons, List.map_nil]); first | done | rfl | (simp only [List.length_drop, List.length_take]; rfl)) ?_; (with_reducible refine (spec_l29Ok.calls k _ _ l0 true _ ?side1 ?side2 A4.out).mono ?_); (case side1 => repeat (first | exact HR0.out | (with_reducible refine Kd.C_alloc ?_ _) | (with_reducible refine Kd.C_drewN ?_ _) | (with_reducible refine Kd.C_drew ?_))); (case side2 => exact HC0.out); rintro e w' ⟨rfl, ⟨nd, rfl⟩⟩; refine ⟨_, rfl, ?_⟩) | ((with_reducible refine gate_callee (f := 39) rfl ?_); refine goesL_ (some 15) rfl rfl Try.func39 (by kernel_rfl) rfl #[.slice A0 l0.length c0, .string a1, .string a2] rfl (by (try simp only [List.map_toArray, List.map_cons, List.map_nil]); first | done | rfl | (simp only [List.length_drop, List.length_take]; rfl)) ?_; (with_reducible refine (spec_l29Find.calls k _ _ l0 a1 a2 t216 _ ?side1 ?side2 A6.out).mono ?_); (case side1 => repeat (first | exact HR0.out | (with_reducible refine Kd.C_alloc ?_ _) | (with_reducible refine Kd.C_drewN ?_ _) | (with_reducible refine Kd.C_drew ?_))); (case side2 => exact HC0.out); rintro e w' ⟨rfl, ⟨nd, rfl⟩⟩; refine ⟨_, rfl, ?_⟩))
      go_ret2
      exact ⟨by first | rfl | (simp; done) | (simp [*]; done), by repeat (first | exact Drawn0.refl _ | apply Drawn0.step)⟩
    · rw [if_neg c7] at H
      have c7b0 : decide (t216 < 0) = false := decide_eq_false c7
      clear c7
      by_cases c8 : 0 ≤ t216
      · rw [if_pos c8] at H
        have c8b0 : decide (0 ≤ t216) = true := decide_eq_true c8
        clear c8
        by_cases c9 : t216 < (l0.length : Int)
        · rw [if_pos c9] at H
          have c9b0 : decide (t216 < (l0.length : Int)) = true := decide_eq_true c9
          clear c9
          simp only [Option.some.injEq, Prod.mk.injEq] at H
          obtain ⟨rfl, rfl⟩ := H
          go_enter Try.func15, Try.ntmps15
          go_wp2_with (first | ((with_reducible refine gate_callee (f := 35) rfl ?_); refine goesL_ (some 10) rfl rfl Try.func35 (by kernel_rfl) rfl #[.slice A0 l0.length c0] rfl (by (try simp only [List.map_toArray, List.map_cons, List.map_nil]); first | done | rfl | (simp only [List.length_drop, List.length_take]; rfl)) ?_; (with_reducible refine (spec_l29Ok.calls k _ _ l0 true _ ?side1 ?side2 A4.out).mono ?_); (case side1 => repeat (first | exact HR0.out | (with_reducible refine Kd.C_alloc ?_ _) | (with_reducible refine Kd.C_drewN ?_ _) | (with_reducible refine Kd.C_drew ?_))); (case side2 => exact HC0.out); rintro e w' ⟨rfl, ⟨nd, rfl⟩⟩; refine ⟨_, rfl, ?_⟩) | ((with_reducible refine gate_callee (f := 39) rfl ?_); refine goesL_ (some 15) rfl rfl Try.func39 (by kernel_rfl) rfl #[.slice A0 l0.length c0, .string a1, .string a2] rfl (by (try simp only [List.map_toArray, List.map_cons, List.map_nil]); first | done | rfl | (simp only [List.length_drop, List.length_take]; rfl)) ?_; (with_reducible refine (spec_l29Find.calls k _ _ l0 a1 a2 t216 _ ?side1 ?side2 A6.out).mono ?_); (case side1 => repeat (first | exact HR0.out | (with_reducible refine Kd.C_alloc ?_ _) | (with_reducible refine Kd.C_drewN ?_ _) | (with_reducible refine Kd.C_drew ?_))); (case side2 => exact HC0.out); rintro e w' ⟨rfl, ⟨nd, rfl⟩⟩; refine ⟨_, rfl, ?_⟩; have p217 : 0 ≤ (t216 : Int) := of_decide_eq_true (by first | (with_reducible assumption) | assumption); have q217 : t216 < (l0.length : Int) := of_decide_eq_true (by first | (with_reducible assumption) | assumption); obtain ⟨ad217, e217, hx217_0, hx217_1, hx217_2⟩ := at_T45 HR0.out t216 p217 q217; cases e217; replace p217 := eq_true p217; replace q217 := eq_true q217))
          go_ret2
          exact ⟨by first | rfl | (simp; done) | (simp [*]; done), by repeat (first | exact Drawn0.refl _ | apply Drawn0.step)⟩
        · rw [if_neg c9] at H
          exact absurd H (by simp)
      · rw [if_neg c8] at H
        exact absurd H (by simp)
  · replace c5 := Bool.eq_false_iff.mpr c5
    subst c5
    have H1 : (some ((⟨#[]⟩ : ByteArray), 1)) = some (r1, r2) := by rw [if_neg (show ¬ (false = true) by decide)] at H; exact H
    clear H
    have H := H1
    clear H1
    simp only [Option.some.injEq, Prod.mk.injEq] at H
    obtain ⟨rfl, rfl⟩ := H
    go_enter Try.func15, Try.ntmps15
    go_wp2_with (first | ((with_reducible refine gate_callee (f := 35) rfl ?_); refine goesL_ (some 10) rfl rfl Try.func35 (by kernel_rfl) rfl #[.slice A0 l0.length c0] rfl (by (try simp only [List.map_toArray, List.map_cons, List.map_nil]); first | done | rfl | (simp only [List.length_drop, List.length_take]; rfl)) ?_; (with_reducible refine (spec_l29Ok.calls k _ _ l0 false _ ?side1 ?side2 A4.out).mono ?_); (case side1 => repeat (first | exact HR0.out | (with_reducible refine Kd.C_alloc ?_ _) | (with_reducible refine Kd.C_drewN ?_ _) | (with_reducible refine Kd.C_drew ?_))); (case side2 => exact HC0.out); rintro e w' ⟨rfl, ⟨nd, rfl⟩⟩; refine ⟨_, rfl, ?_⟩))
    go_ret2
    exact ⟨by first | rfl | (simp; done) | (simp [*]; done), by repeat (first | exact Drawn0.refl _ | apply Drawn0.step)⟩
def impl_BlockNamed.f (k : Nat) (l0 : List (S45)) (a1 : ByteArray) (a2 : ByteArray) : Option (ByteArray × Int) := (impl_ValidBlocks.f k l0).bind fun t218 => (if t218 = true then ((slices_BinarySearchFunc_BlockS.f k l0 a1 a2 (⟨#[]⟩ : ByteArray)).bind fun bt219 => (if bt219.2 = true then (if 0 ≤ bt219.1 then (if bt219.1 < (l0.length : Int) then (some ((rd_T45 l0 bt219.1).f2, 0)) else (none)) else (none)) else (some ((⟨#[]⟩ : ByteArray), 3)))) else (some ((⟨#[]⟩ : ByteArray), 1)))
set_option maxHeartbeats 8000000 in
set_option maxRecDepth 100000 in
theorem impl_BlockNamed.calls (k : Nat) (A0 : Option Addr) (c0 : Nat) (l0 : List (S45)) (a1 : ByteArray) (a2 : ByteArray) (r1 : ByteArray) (r2 : Int) (w : World) (hr0 : Kd.C k45 w A0 l0.length l0) (hc0 : l0.length ≤ c0) (hSH : World.ShapedOpen Try.prog w) (h : impl_BlockNamed.f k l0 a1 a2 = some (r1, r2)) :
    Calls Try.prog 16 #[.slice A0 l0.length c0, .string a1, .string a2] w fun e w' => e = .returned (.tuple #[.string r1, .int .i64 r2]) ∧ Below w.heap.size w w' := by
  have hu45 := Try.underlying45
  have HR0 := Aside0.mk hr0
  have HC0 := Aside0.mk hc0
  clear hr0 hc0
  have HB := Aside0.mk (Below.refl w.heap.size w)
  have HSH := Aside0.mk hSH
  clear hSH
  have H : ((impl_ValidBlocks.f k l0).bind fun t218 => (if t218 = true then ((slices_BinarySearchFunc_BlockS.f k l0 a1 a2 (⟨#[]⟩ : ByteArray)).bind fun bt219 => (if bt219.2 = true then (if 0 ≤ bt219.1 then (if bt219.1 < (l0.length : Int) then (some ((rd_T45 l0 bt219.1).f2, 0)) else (none)) else (none)) else (some ((⟨#[]⟩ : ByteArray), 3)))) else (some ((⟨#[]⟩ : ByteArray), 1)))) = some (r1, r2) := h
  clear h
  replace H := Option.bind_eq_some_iff.mp H
  obtain ⟨t218, A40, H⟩ := H
  replace H : (if t218 = true then ((slices_BinarySearchFunc_BlockS.f k l0 a1 a2 (⟨#[]⟩ : ByteArray)).bind fun bt219 => (if bt219.2 = true then (if 0 ≤ bt219.1 then (if bt219.1 < (l0.length : Int) then (some ((rd_T45 l0 bt219.1).f2, 0)) else (none)) else (none)) else (some ((⟨#[]⟩ : ByteArray), 3)))) else (some ((⟨#[]⟩ : ByteArray), 1))) = some (r1, r2) := H
  have A4 := Aside0.mk A40
  clear A40
  by_cases c5 : t218 = true
  · subst c5
    have H1 : ((slices_BinarySearchFunc_BlockS.f k l0 a1 a2 (⟨#[]⟩ : ByteArray)).bind fun bt219 => (if bt219.2 = true then (if 0 ≤ bt219.1 then (if bt219.1 < (l0.length : Int) then (some ((rd_T45 l0 bt219.1).f2, 0)) else (none)) else (none)) else (some ((⟨#[]⟩ : ByteArray), 3)))) = some (r1, r2) := by rw [if_pos rfl] at H; exact H
    clear H
    have H := H1
    clear H1
    replace H := Option.bind_eq_some_iff.mp H
    obtain ⟨⟨t219, t220⟩, A60, H⟩ := H
    replace H : (if t220 = true then (if 0 ≤ t219 then (if t219 < (l0.length : Int) then (some ((rd_T45 l0 t219).f2, 0)) else (none)) else (none)) else (some ((⟨#[]⟩ : ByteArray), 3))) = some (r1, r2) := H
    have A6 := Aside0.mk A60
    clear A60
    by_cases c7 : t220 = true
    · subst c7
      have H1 : (if 0 ≤ t219 then (if t219 < (l0.length : Int) then (some ((rd_T45 l0 t219).f2, 0)) else (none)) else (none)) = some (r1, r2) := by rw [if_pos rfl] at H; exact H
      clear H
      have H := H1
      clear H1
      by_cases c8 : 0 ≤ t219
      · rw [if_pos c8] at H
        have c8b0 : decide (0 ≤ t219) = true := decide_eq_true c8
        clear c8
        by_cases c9 : t219 < (l0.length : Int)
        · rw [if_pos c9] at H
          have c9b0 : decide (t219 < (l0.length : Int)) = true := decide_eq_true c9
          clear c9
          simp only [Option.some.injEq, Prod.mk.injEq] at H
          obtain ⟨rfl, rfl⟩ := H
          go_enter Try.func16, Try.ntmps16
          go_wp2_with (first | ((with_reducible refine gate_callee (f := 13) rfl ?_); refine goesL_ (some 11) rfl rfl Try.func13 (by kernel_rfl) rfl #[.slice A0 l0.length c0] rfl (by (try simp only [List.map_toArray, List.map_cons, List.map_nil]); first | done | rfl | (simp only [List.length_drop, List.length_take]; rfl)) ?_; (with_reducible refine (impl_ValidBlocks.calls k _ _ l0 true _ ?side1 ?side2 ?side3 A4.out).mono ?_); (case side1 => repeat (first | exact HR0.out | (with_reducible refine Kd.C_alloc ?_ _) | (with_reducible refine Kd.C_drewN ?_ _) | (with_reducible refine Kd.C_drew ?_))); (case side2 => exact HC0.out); (case side3 => exact HSH.out.keptBut ((show Below w.heap.size w _ from by repeat (first | (with_reducible first | exact HB.out | apply below_alloc | apply pw_below_drewN | apply below_drew1) | exact HB.out)).frame (fun _ => False)) (fun _ h_ => h_.elim)); rintro e w10 ⟨rfl, hb⟩; refine ⟨_, rfl, ?_⟩; have n0_ := Aside0.mk (below_step (by repeat (first | (with_reducible first | exact HB.out | apply below_alloc | apply pw_below_drewN | apply below_drew1) | exact HB.out)) hb); clear HB; have HB := n0_; clear n0_; (try clear hb); (try clear hb2); (try clear hk); (try clear hi)) | ((with_reducible refine gate_callee (f := 40) rfl ?_); refine goesL_ (some 18) rfl rfl Try.func40 (by kernel_rfl) rfl #[.slice A0 l0.length c0, .agg #[.string a1, .string a2, .string (⟨#[]⟩ : ByteArray)], .func (.func 37) #[] #[]] rfl (by (try simp only [List.map_toArray, List.map_cons, List.map_nil]); first | done | rfl | (simp only [List.length_drop, List.length_take]; rfl)) ?_; (with_reducible refine (slices_BinarySearchFunc_BlockS.calls k _ _ l0 a1 a2 (⟨#[]⟩ : ByteArray)  t219 true _ ?side1 ?side2 A6.out).mono ?_); (case side1 => repeat (first | exact (Kd.C_below HR0.out HB.out) | (with_reducible refine Kd.C_alloc ?_ _) | (with_reducible refine Kd.C_drewN ?_ _) | (with_reducible refine Kd.C_drew ?_))); (case side2 => exact HC0.out); rintro e w11 ⟨rfl, hb⟩; refine ⟨_, rfl, ?_⟩; have n0_ := Aside0.mk (below_step (by repeat (first | (with_reducible first | exact HB.out | apply below_alloc | apply pw_below_drewN | apply below_drew1) | exact HB.out)) hb); clear HB; have HB := n0_; clear n0_; (try clear hb); (try clear hb2); (try clear hk); (try clear hi); have p221 : 0 ≤ (t219 : Int) := of_decide_eq_true (by first | (with_reducible assumption) | assumption); have q221 : t219 < (l0.length : Int) := of_decide_eq_true (by first | (with_reducible assumption) | assumption); obtain ⟨ad221, e221, hx221_0, hx221_1, hx221_2⟩ := at_T45 HR0.out t219 p221 q221; cases e221; replace hx221_0 := (HB.out.cell (World.block_lt_of_cell? w _ hx221_0)).trans hx221_0; replace hx221_1 := (HB.out.cell (World.block_lt_of_cell? w _ hx221_1)).trans hx221_1; replace hx221_2 := (HB.out.cell (World.block_lt_of_cell? w _ hx221_2)).trans hx221_2; replace p221 := eq_true p221; replace q221 := eq_true q221))
          go_ret2
          exact ⟨by first | rfl | (simp [errW_none, errW_some] <;> rfl) | (simp [*, errW_none, errW_some] <;> rfl), by repeat (first | (with_reducible first | exact HB.out | apply below_alloc | apply pw_below_drewN | apply below_drew1) | exact HB.out)⟩
        · rw [if_neg c9] at H
          exact absurd H (by simp)
      · rw [if_neg c8] at H
        exact absurd H (by simp)
    · replace c7 := Bool.eq_false_iff.mpr c7
      subst c7
      have H1 : (some ((⟨#[]⟩ : ByteArray), 3)) = some (r1, r2) := by rw [if_neg (show ¬ (false = true) by decide)] at H; exact H
      clear H
      have H := H1
      clear H1
      simp only [Option.some.injEq, Prod.mk.injEq] at H
      obtain ⟨rfl, rfl⟩ := H
      go_enter Try.func16, Try.ntmps16
      go_wp2_with (first | ((with_reducible refine gate_callee (f := 13) rfl ?_); refine goesL_ (some 11) rfl rfl Try.func13 (by kernel_rfl) rfl #[.slice A0 l0.length c0] rfl (by (try simp only [List.map_toArray, List.map_cons, List.map_nil]); first | done | rfl | (simp only [List.length_drop, List.length_take]; rfl)) ?_; (with_reducible refine (impl_ValidBlocks.calls k _ _ l0 true _ ?side1 ?side2 ?side3 A4.out).mono ?_); (case side1 => repeat (first | exact HR0.out | (with_reducible refine Kd.C_alloc ?_ _) | (with_reducible refine Kd.C_drewN ?_ _) | (with_reducible refine Kd.C_drew ?_))); (case side2 => exact HC0.out); (case side3 => exact HSH.out.keptBut ((show Below w.heap.size w _ from by repeat (first | (with_reducible first | exact HB.out | apply below_alloc | apply pw_below_drewN | apply below_drew1) | exact HB.out)).frame (fun _ => False)) (fun _ h_ => h_.elim)); rintro e w12 ⟨rfl, hb⟩; refine ⟨_, rfl, ?_⟩; have n0_ := Aside0.mk (below_step (by repeat (first | (with_reducible first | exact HB.out | apply below_alloc | apply pw_below_drewN | apply below_drew1) | exact HB.out)) hb); clear HB; have HB := n0_; clear n0_; (try clear hb); (try clear hb2); (try clear hk); (try clear hi)) | ((with_reducible refine gate_callee (f := 40) rfl ?_); refine goesL_ (some 18) rfl rfl Try.func40 (by kernel_rfl) rfl #[.slice A0 l0.length c0, .agg #[.string a1, .string a2, .string (⟨#[]⟩ : ByteArray)], .func (.func 37) #[] #[]] rfl (by (try simp only [List.map_toArray, List.map_cons, List.map_nil]); first | done | rfl | (simp only [List.length_drop, List.length_take]; rfl)) ?_; (with_reducible refine (slices_BinarySearchFunc_BlockS.calls k _ _ l0 a1 a2 (⟨#[]⟩ : ByteArray)  t219 false _ ?side1 ?side2 A6.out).mono ?_); (case side1 => repeat (first | exact (Kd.C_below HR0.out HB.out) | (with_reducible refine Kd.C_alloc ?_ _) | (with_reducible refine Kd.C_drewN ?_ _) | (with_reducible refine Kd.C_drew ?_))); (case side2 => exact HC0.out); rintro e w13 ⟨rfl, hb⟩; refine ⟨_, rfl, ?_⟩; have n0_ := Aside0.mk (below_step (by repeat (first | (with_reducible first | exact HB.out | apply below_alloc | apply pw_below_drewN | apply below_drew1) | exact HB.out)) hb); clear HB; have HB := n0_; clear n0_; (try clear hb); (try clear hb2); (try clear hk); (try clear hi)))
      go_ret2
      exact ⟨by first | rfl | (simp [errW_none, errW_some] <;> rfl) | (simp [*, errW_none, errW_some] <;> rfl), by repeat (first | (with_reducible first | exact HB.out | apply below_alloc | apply pw_below_drewN | apply below_drew1) | exact HB.out)⟩
  · replace c5 := Bool.eq_false_iff.mpr c5
    subst c5
    have H1 : (some ((⟨#[]⟩ : ByteArray), 1)) = some (r1, r2) := by rw [if_neg (show ¬ (false = true) by decide)] at H; exact H
    clear H
    have H := H1
    clear H1
    simp only [Option.some.injEq, Prod.mk.injEq] at H
    obtain ⟨rfl, rfl⟩ := H
    go_enter Try.func16, Try.ntmps16
    go_wp2_with (first | ((with_reducible refine gate_callee (f := 13) rfl ?_); refine goesL_ (some 11) rfl rfl Try.func13 (by kernel_rfl) rfl #[.slice A0 l0.length c0] rfl (by (try simp only [List.map_toArray, List.map_cons, List.map_nil]); first | done | rfl | (simp only [List.length_drop, List.length_take]; rfl)) ?_; (with_reducible refine (impl_ValidBlocks.calls k _ _ l0 false _ ?side1 ?side2 ?side3 A4.out).mono ?_); (case side1 => repeat (first | exact HR0.out | (with_reducible refine Kd.C_alloc ?_ _) | (with_reducible refine Kd.C_drewN ?_ _) | (with_reducible refine Kd.C_drew ?_))); (case side2 => exact HC0.out); (case side3 => exact HSH.out.keptBut ((show Below w.heap.size w _ from by repeat (first | (with_reducible first | exact HB.out | apply below_alloc | apply pw_below_drewN | apply below_drew1) | exact HB.out)).frame (fun _ => False)) (fun _ h_ => h_.elim)); rintro e w14 ⟨rfl, hb⟩; refine ⟨_, rfl, ?_⟩; have n0_ := Aside0.mk (below_step (by repeat (first | (with_reducible first | exact HB.out | apply below_alloc | apply pw_below_drewN | apply below_drew1) | exact HB.out)) hb); clear HB; have HB := n0_; clear n0_; (try clear hb); (try clear hb2); (try clear hk); (try clear hi)))
    go_ret2
    exact ⟨by first | rfl | (simp [errW_none, errW_some] <;> rfl) | (simp [*, errW_none, errW_some] <;> rfl), by repeat (first | (with_reducible first | exact HB.out | apply below_alloc | apply pw_below_drewN | apply below_drew1) | exact HB.out)⟩
end Go.Proofs.Ytnabckhhnknlaaa.XD
end

section
namespace Go.Proofs.Ytnabckhhnknlaaa.XD
open Go.RowKit Go.Proofs.YtnabckhhnknlaaaW.PrintWords Go.Proofs.YtnabckhhnknlaaaW.PrintLast Go.Proofs.YtnabckhhnknlaaaW.PrintMore
attribute [local go_sem] run_eql_slice_nil binOp_string_gtr' binOp_string_leq' binOp_string_geq' max2_int min2_int max_two min_two max_three min_three max_four min_four   -- for this text's walks alone
set_option linter.unusedVariables false
set_option linter.unusedSimpArgs false
def laws_FnExactBlockNamed.j0 : Nat → List (S42) → List (S45) → Bool → Option (Bool)
  | 0, _, _, _ => none
  | k + 1, x0, x10, x48 => if x48 = true then (some false) else ((laws_toBlockS.f k x0).bind fun t233 => ((laws_eqBlockS.f k x10 t233).bind fun t236 => (if t236 = true then (some true) else (some false))))
def laws_FnExactBlockNamed.f (k : Nat) (l0 : List (S42)) (a1 : ByteArray) (a2 : ByteArray) : Option (Bool) := if (a1.size : Int) > 1048576 then (some true) else (if (a2.size : Int) > 1048576 then (some true) else ((laws_szBlockS.f k l0 1048576).bind fun t222 => (if t222 < 0 then (some true) else ((laws_toBlockS.f k l0).bind fun t223 => ((spec_BlockNamed.f k t223 a1 a2).bind fun bt226 => ((laws_toBlockS.f k l0).bind fun t228 => ((impl_BlockNamed.f k t228 a1 a2).bind fun bt231 => (if bt231.1.toList = bt226.1.toList then (laws_FnExactBlockNamed.j0 k l0 t228 (bt231.2 != bt226.2)) else (laws_FnExactBlockNamed.j0 k l0 t228 true)))))))))
set_option maxHeartbeats 8000000 in
set_option maxRecDepth 100000 in
theorem laws_FnExactBlockNamed.calls (k : Nat) (A0 : Option Addr) (c0 : Nat) (l0 : List (S42)) (a1 : ByteArray) (a2 : ByteArray) (r : Bool) (w : World) (hr0 : Kd.C k42 w A0 l0.length l0) (hc0 : l0.length ≤ c0) (hSH : World.ShapedOpen Try.prog w) (h : laws_FnExactBlockNamed.f k l0 a1 a2 = some r) :
    Calls Try.prog 4 #[.slice A0 l0.length c0, .string a1, .string a2] w fun e w' => e = .returned (.bool r) ∧ Below w.heap.size w w' := by
  have HR0 := Aside0.mk hr0
  have HC0 := Aside0.mk hc0
  clear hr0 hc0
  have HB := Aside0.mk (Below.refl w.heap.size w)
  have HSH := Aside0.mk hSH
  clear hSH
  have H : (if (a1.size : Int) > 1048576 then (some true) else (if (a2.size : Int) > 1048576 then (some true) else ((laws_szBlockS.f k l0 1048576).bind fun t222 => (if t222 < 0 then (some true) else ((laws_toBlockS.f k l0).bind fun t223 => ((spec_BlockNamed.f k t223 a1 a2).bind fun bt226 => ((laws_toBlockS.f k l0).bind fun t228 => ((impl_BlockNamed.f k t228 a1 a2).bind fun bt231 => (if bt231.1.toList = bt226.1.toList then (laws_FnExactBlockNamed.j0 k l0 t228 (bt231.2 != bt226.2)) else (laws_FnExactBlockNamed.j0 k l0 t228 true)))))))))) = some r := h
  clear h
  by_cases c4 : (a1.size : Int) > 1048576
  · rw [if_pos c4] at H
    have c4b0 : decide (1048576 < (a1.size : Int)) = true := decide_eq_true c4
    have c4b1 : decide (1048576 < a1.size) = true := decide_eq_true (by omega)
    clear c4
    obtain rfl := Option.some.inj H
    go_enter Try.func4, Try.ntmps4
    go_wp2
    go_ret
    exact ⟨by first | rfl | (simp [errW_none, errW_some] <;> rfl) | (simp [*, errW_none, errW_some] <;> rfl), by repeat (first | (with_reducible first | exact HB.out | apply below_alloc | apply pw_below_drewN | apply below_drew1) | exact HB.out)⟩
  · rw [if_neg c4] at H
    have c4b0 : decide (1048576 < (a1.size : Int)) = false := decide_eq_false c4
    have c4b1 : decide (1048576 < a1.size) = false := decide_eq_false (by omega)
    clear c4
    by_cases c5 : (a2.size : Int) > 1048576
    · rw [if_pos c5] at H
      have c5b0 : decide (1048576 < (a2.size : Int)) = true := decide_eq_true c5
      have c5b1 : decide (1048576 < a2.size) = true := decide_eq_true (by omega)
      clear c5
      obtain rfl := Option.some.inj H
      go_enter Try.func4, Try.ntmps4
      go_wp2
      go_ret
      exact ⟨by first | rfl | (simp [errW_none, errW_some] <;> rfl) | (simp [*, errW_none, errW_some] <;> rfl), by repeat (first | (with_reducible first | exact HB.out | apply below_alloc | apply pw_below_drewN | apply below_drew1) | exact HB.out)⟩
    · rw [if_neg c5] at H
      have c5b0 : decide (1048576 < (a2.size : Int)) = false := decide_eq_false c5
      have c5b1 : decide (1048576 < a2.size) = false := decide_eq_false (by omega)
      clear c5
      replace H := Option.bind_eq_some_iff.mp H
      obtain ⟨t222, A60, H⟩ := H
      replace H : (if t222 < 0 then (some true) else ((laws_toBlockS.f k l0).bind fun t223 => ((spec_BlockNamed.f k t223 a1 a2).bind fun bt226 => ((laws_toBlockS.f k l0).bind fun t228 => ((impl_BlockNamed.f k t228 a1 a2).bind fun bt231 => (if bt231.1.toList = bt226.1.toList then (laws_FnExactBlockNamed.j0 k l0 t228 (bt231.2 != bt226.2)) else (laws_FnExactBlockNamed.j0 k l0 t228 true))))))) = some r := H
      have A6 := Aside0.mk A60
      clear A60
      by_cases c7 : t222 < 0
      · rw [if_pos c7] at H
        have c7b0 : decide (t222 < 0) = true := decide_eq_true c7
        clear c7
        obtain rfl := Option.some.inj H
        go_enter Try.func4, Try.ntmps4
        go_wp2_with (first | ((with_reducible refine gate_callee (f := 10) rfl ?_); refine goesL_ (some 21) rfl rfl Try.func10 (by kernel_rfl) rfl #[.slice A0 l0.length c0, .int .i64 1048576] rfl (by (try simp only [List.map_toArray, List.map_cons, List.map_nil]); first | done | rfl | (simp only [List.length_drop, List.length_take]; rfl)) ?_; (with_reducible refine (laws_szBlockS.calls k _ _ l0 1048576 t222 _ ?side1 ?side2 A6.out).mono ?_); (case side1 => repeat (first | exact HR0.out | (with_reducible refine Kd.C_alloc ?_ _) | (with_reducible refine Kd.C_drewN ?_ _) | (with_reducible refine Kd.C_drew ?_))); (case side2 => exact HC0.out); rintro e w8 ⟨rfl, hb⟩; refine ⟨_, rfl, ?_⟩; have n0_ := Aside0.mk (below_step (by repeat (first | (with_reducible first | exact HB.out | apply below_alloc | apply pw_below_drewN | apply below_drew1) | exact HB.out)) hb); clear HB; have HB := n0_; clear n0_; (try clear hb); (try clear hb2); (try clear hk); (try clear hi)))
        go_ret
        exact ⟨by first | rfl | (simp [errW_none, errW_some] <;> rfl) | (simp [*, errW_none, errW_some] <;> rfl), by repeat (first | (with_reducible first | exact HB.out | apply below_alloc | apply pw_below_drewN | apply below_drew1) | exact HB.out)⟩
      · rw [if_neg c7] at H
        have c7b0 : decide (t222 < 0) = false := decide_eq_false c7
        clear c7
        replace H := Option.bind_eq_some_iff.mp H
        obtain ⟨t223, A90, H⟩ := H
        replace H : ((spec_BlockNamed.f k t223 a1 a2).bind fun bt226 => ((laws_toBlockS.f k l0).bind fun t228 => ((impl_BlockNamed.f k t228 a1 a2).bind fun bt231 => (if bt231.1.toList = bt226.1.toList then (laws_FnExactBlockNamed.j0 k l0 t228 (bt231.2 != bt226.2)) else (laws_FnExactBlockNamed.j0 k l0 t228 true))))) = some r := H
        have A9 := Aside0.mk A90
        clear A90
        replace H := Option.bind_eq_some_iff.mp H
        obtain ⟨⟨t226, t227⟩, A100, H⟩ := H
        replace H : ((laws_toBlockS.f k l0).bind fun t228 => ((impl_BlockNamed.f k t228 a1 a2).bind fun bt231 => (if bt231.1.toList = t226.toList then (laws_FnExactBlockNamed.j0 k l0 t228 (bt231.2 != t227)) else (laws_FnExactBlockNamed.j0 k l0 t228 true)))) = some r := H
        have A10 := Aside0.mk A100
        clear A100
        replace H := Option.bind_eq_some_iff.mp H
        obtain ⟨t228, A110, H⟩ := H
        replace H : ((impl_BlockNamed.f k t228 a1 a2).bind fun bt231 => (if bt231.1.toList = t226.toList then (laws_FnExactBlockNamed.j0 k l0 t228 (bt231.2 != t227)) else (laws_FnExactBlockNamed.j0 k l0 t228 true))) = some r := H
        have A11 := Aside0.mk A110
        clear A110
        replace H := Option.bind_eq_some_iff.mp H
        obtain ⟨⟨t231, t232⟩, A120, H⟩ := H
        replace H : (if t231.toList = t226.toList then (laws_FnExactBlockNamed.j0 k l0 t228 (t232 != t227)) else (laws_FnExactBlockNamed.j0 k l0 t228 true)) = some r := H
        have A12 := Aside0.mk A120
        clear A120
        have HC13 := Aside0.mk H
        clear H
        go_enter Try.func4, Try.ntmps4
        go_upto_region 12 with (first | ((with_reducible refine gate_callee (f := 10) rfl ?_); refine goesL_ (some 21) rfl rfl Try.func10 (by kernel_rfl) rfl #[.slice A0 l0.length c0, .int .i64 1048576] rfl (by (try simp only [List.map_toArray, List.map_cons, List.map_nil]); first | done | rfl | (simp only [List.length_drop, List.length_take]; rfl)) ?_; (with_reducible refine (laws_szBlockS.calls k _ _ l0 1048576 t222 _ ?side1 ?side2 A6.out).mono ?_); (case side1 => repeat (first | exact HR0.out | (with_reducible refine Kd.C_alloc ?_ _) | (with_reducible refine Kd.C_drewN ?_ _) | (with_reducible refine Kd.C_drew ?_))); (case side2 => exact HC0.out); rintro e w14 ⟨rfl, hb⟩; refine ⟨_, rfl, ?_⟩; have n0_ := Aside0.mk (below_step (by repeat (first | (with_reducible first | exact HB.out | apply below_alloc | apply pw_below_drewN | apply below_drew1) | exact HB.out)) hb); clear HB; have HB := n0_; clear n0_; (try clear hb); (try clear hb2); (try clear hk); (try clear hi)) | ((with_reducible refine gate_callee (f := 12) rfl ?_); refine goesL_ (some 26) rfl rfl Try.func12 (by kernel_rfl) rfl #[.slice A0 l0.length c0] rfl (by (try simp only [List.map_toArray, List.map_cons, List.map_nil]); first | done | rfl | (simp only [List.length_drop, List.length_take]; rfl)) ?_; (with_reducible refine (laws_toBlockS.calls k _ _ l0 t223 _ ?side1 ?side2 A9.out).mono ?_); (case side1 => repeat (first | exact (Kd.C_below HR0.out HB.out) | (with_reducible refine Kd.C_alloc ?_ _) | (with_reducible refine Kd.C_drewN ?_ _) | (with_reducible refine Kd.C_drew ?_))); (case side2 => exact HC0.out); rintro e w15 ⟨v224, rfl, ho0, hb⟩; refine ⟨_, rfl, ?_⟩; have n0_ := Aside0.mk (Kd.R_lower ho0 (below_size (by repeat (first | (with_reducible first | exact HB.out | apply below_alloc | apply pw_below_drewN | apply below_drew1) | exact HB.out)))); have n1_ := Aside0.mk (below_step (by repeat (first | (with_reducible first | exact HB.out | apply below_alloc | apply pw_below_drewN | apply below_drew1) | exact HB.out)) hb); clear HB; have HO225 := n0_; have HB := n1_; clear n0_ n1_; (try clear hb); (try clear hb2); (try clear hk); (try clear hi); (try clear ho0); obtain ⟨Ao16, co16, eo16⟩ := Kd.R_slice HO225.out; subst eo16) | ((with_reducible refine gate_callee (f := 15) rfl ?_); refine goesL_ (some 29) rfl rfl Try.func15 (by kernel_rfl) rfl #[.slice Ao16 t223.length co16, .string a1, .string a2] rfl (by (try simp only [List.map_toArray, List.map_cons, List.map_nil]); first | done | rfl | (simp only [List.length_drop, List.length_take]; rfl)) ?_; (with_reducible refine (spec_BlockNamed.calls k _ _ t223 a1 a2 t226 t227 _ ?side1 ?side2 A10.out).mono ?_); (case side1 => repeat (first | exact (Kd.R_reads' HO225.out).2.2 | (with_reducible refine Kd.C_alloc ?_ _) | (with_reducible refine Kd.C_drewN ?_ _) | (with_reducible refine Kd.C_drew ?_))); (case side2 => exact (Kd.R_reads' HO225.out).2.1); rintro e w' ⟨rfl, ⟨nd, rfl⟩⟩; refine ⟨_, rfl, ?_⟩) | ((with_reducible refine gate_callee (f := 12) rfl ?_); refine goesL_ (some 33) rfl rfl Try.func12 (by kernel_rfl) rfl #[.slice A0 l0.length c0] rfl (by (try simp only [List.map_toArray, List.map_cons, List.map_nil]); first | done | rfl | (simp only [List.length_drop, List.length_take]; rfl)) ?_; (with_reducible refine (laws_toBlockS.calls k _ _ l0 t228 _ ?side1 ?side2 A11.out).mono ?_); (case side1 => repeat (first | exact (Kd.C_below HR0.out (by repeat (first | (with_reducible first | exact HB.out | apply below_alloc | apply pw_below_drewN | apply below_drew1) | exact HB.out))) | (with_reducible refine Kd.C_alloc ?_ _) | (with_reducible refine Kd.C_drewN ?_ _) | (with_reducible refine Kd.C_drew ?_))); (case side2 => exact HC0.out); rintro e w17 ⟨v229, rfl, ho0, hb⟩; refine ⟨_, rfl, ?_⟩; have n0_ := Aside0.mk (Kd.R_elder' (by (with_reducible repeat (first | apply Kd.R_alloc | apply Kd.R_drewN | apply Kd.R_drew)); exact HO225.out) (Kd.R_base ho0) hb); have n1_ := Aside0.mk (Kd.R_lower (Kd.R_new' ho0 (Kd.R_lt (by (with_reducible repeat (first | apply Kd.R_alloc | apply Kd.R_drewN | apply Kd.R_drew)); exact HO225.out))) (below_size (by repeat (first | (with_reducible first | exact HB.out | apply below_alloc | apply pw_below_drewN | apply below_drew1) | exact HB.out)))); have n2_ := Aside0.mk (below_step (by repeat (first | (with_reducible first | exact HB.out | apply below_alloc | apply pw_below_drewN | apply below_drew1) | exact HB.out)) hb); clear HO225; clear HB; have HO225 := n0_; have HO230 := n1_; have HB := n2_; clear n0_ n1_ n2_; (try clear hb); (try clear hb2); (try clear hk); (try clear hi); (try clear ho0); obtain ⟨Ao18, co18, eo18⟩ := Kd.R_slice HO230.out; subst eo18) | ((with_reducible refine gate_callee (f := 16) rfl ?_); refine goesL_ (some 38) rfl rfl Try.func16 (by kernel_rfl) rfl #[.slice Ao18 t228.length co18, .string a1, .string a2] rfl (by (try simp only [List.map_toArray, List.map_cons, List.map_nil]); first | done | rfl | (simp only [List.length_drop, List.length_take]; rfl)) ?_; (with_reducible refine (impl_BlockNamed.calls k _ _ t228 a1 a2 t231 t232 _ ?side1 ?side2 ?side3 A12.out).mono ?_); (case side1 => repeat (first | exact (Kd.R_reads' HO230.out).2.2 | (with_reducible refine Kd.C_alloc ?_ _) | (with_reducible refine Kd.C_drewN ?_ _) | (with_reducible refine Kd.C_drew ?_))); (case side2 => exact (Kd.R_reads' HO230.out).2.1); (case side3 => exact HSH.out.keptBut ((show Below w.heap.size w _ from by repeat (first | (with_reducible first | exact HB.out | apply below_alloc | apply pw_below_drewN | apply below_drew1) | exact HB.out)).frame (fun _ => False)) (fun _ h_ => h_.elim)); rintro e w19 ⟨rfl, hb⟩; refine ⟨_, rfl, ?_⟩; have n0_ := Aside0.mk (Kd.R_below (by (with_reducible repeat (first | apply Kd.R_alloc | apply Kd.R_drewN | apply Kd.R_drew)); exact HO225.out) hb); have n1_ := Aside0.mk (Kd.R_below (by (with_reducible repeat (first | apply Kd.R_alloc | apply Kd.R_drewN | apply Kd.R_drew)); exact HO230.out) hb); have n2_ := Aside0.mk (below_step (by repeat (first | (with_reducible first | exact HB.out | apply below_alloc | apply pw_below_drewN | apply below_drew1) | exact HB.out)) hb); clear HO225; clear HO230; clear HB; have HO225 := n0_; have HO230 := n1_; have HB := n2_; clear n0_ n1_ n2_; (try clear hb); (try clear hb2); (try clear hk); (try clear hi)))
        (try simp only [Act.put, List.setIfInBounds_toArray, List.set_cons_zero, List.set_cons_succ])
        go_cut [48] (fun v48 wc => ∃ (kq : Nat) (x48_12 : Bool), v48 = .bool x48_12 ∧ Aside0 (laws_FnExactBlockNamed.j0 kq l0 t228 x48_12 = some r) ∧ Aside0 (kq ≤ k) ∧ Aside0 (Kd.R k45 45 wc w.heap.size (fun _ => True) (.slice Ao18 t228.length co18) t228) ∧ Aside0 (Below w.heap.size w wc))
        case first =>
          have H := HC13.out
          clear HC13
          by_cases c20 : t231.toList = t226.toList
          · rw [if_pos c20] at H
            have c20b0 : (t231.toList == t226.toList) = true := beq_iff_eq.mpr c20
            have c20b1 : (t231.toList != t226.toList) = false := bne_eq_false_iff_eq.mpr c20
            clear c20
            (first | rw [c20b0] | (simp only [i64_w, i32_w]; rw [c20b0]) | skip)
            have H' := Aside0.mk H
            clear H
            go_wp2
            go_meet
            case rel => exact ⟨_, ((t232 != t227)), (by first | rfl | (simp; done) | (simp [*]; done)), H', ⟨by first | omega | exact Nat.le_refl _⟩, ⟨by (with_reducible repeat (first | apply Kd.R_alloc | apply Kd.R_drewN | apply Kd.R_drew)); exact Kd.R_mono HO230.out (fun _ hk => trivial)⟩, ⟨by repeat (first | (with_reducible first | exact HB.out | apply below_alloc | apply pw_below_drewN | apply below_drew1) | exact HB.out)⟩⟩
          · rw [if_neg c20] at H
            have c20b0 : (t231.toList == t226.toList) = false := beq_eq_false_iff_ne.mpr c20
            have c20b1 : (t231.toList != t226.toList) = true := bne_iff_ne.mpr c20
            (first | rw [c20b0] | (simp only [i64_w, i32_w]; rw [c20b0]) | skip)
            have H' := Aside0.mk H
            clear H
            go_wp2
            go_meet
            case rel => exact ⟨_, (true), (by first | rfl | (simp; done) | (simp [*]; done)), H', ⟨by first | omega | exact Nat.le_refl _⟩, ⟨by (with_reducible repeat (first | apply Kd.R_alloc | apply Kd.R_drewN | apply Kd.R_drew)); exact Kd.R_mono HO230.out (fun _ hk => trivial)⟩, ⟨by repeat (first | (with_reducible first | exact HB.out | apply below_alloc | apply pw_below_drewN | apply below_drew1) | exact HB.out)⟩⟩
        case rest =>
          clear HC13
          try clear c1
          try clear c2
          try clear p2
          try clear c4
          try clear c4b0
          try clear c4b1
          try clear c5
          try clear c5b0
          try clear c5b1
          try clear c7
          try clear c7b0
          try clear c10
          try clear c12
          try clear c15
          try clear c16
          try clear c20
          try clear c20b0
          try clear c20b1
          obtain ⟨kq, x48_12, rfl, HA, HJ12, HO_10, HB⟩ := hcut
          cases kq with
          | zero => exact absurd HA.out (by simp [laws_FnExactBlockNamed.j0])
          | succ kj12 =>
            have H := HA.out
            clear HA
            simp only [laws_FnExactBlockNamed.j0] at H
            by_cases c21 : x48_12 = true
            · subst c21
              have H1 : (some false) = some r := by rw [if_pos rfl] at H; exact H
              clear H
              have H := H1
              clear H1
              obtain rfl := Option.some.inj H
              go_wp2
              go_ret
              exact ⟨by first | rfl | (simp [errW_none, errW_some] <;> rfl) | (simp [*, errW_none, errW_some] <;> rfl), by repeat (first | (with_reducible first | exact HB.out | apply below_alloc | apply pw_below_drewN | apply below_drew1) | exact HB.out)⟩
            · replace c21 := Bool.eq_false_iff.mpr c21
              subst c21
              have H1 : ((laws_toBlockS.f kj12 l0).bind fun t233 => ((laws_eqBlockS.f kj12 t228 t233).bind fun t236 => (if t236 = true then (some true) else (some false)))) = some r := by rw [if_neg (show ¬ (false = true) by decide)] at H; exact H
              clear H
              have H := H1
              clear H1
              replace H := Option.bind_eq_some_iff.mp H
              obtain ⟨t233, A220, H⟩ := H
              replace H : ((laws_eqBlockS.f kj12 t228 t233).bind fun t236 => (if t236 = true then (some true) else (some false))) = some r := H
              have A22 := Aside0.mk A220
              clear A220
              replace H := Option.bind_eq_some_iff.mp H
              obtain ⟨t236, A230, H⟩ := H
              replace H : (if t236 = true then (some true) else (some false)) = some r := H
              have A23 := Aside0.mk A230
              clear A230
              by_cases c24 : t236 = true
              · subst c24
                have H1 : (some true) = some r := by rw [if_pos rfl] at H; exact H
                clear H
                have H := H1
                clear H1
                obtain rfl := Option.some.inj H
                go_wp2_with (first | ((with_reducible refine gate_callee (f := 12) rfl ?_); refine goesL_ (some 51) rfl rfl Try.func12 (by kernel_rfl) rfl #[.slice A0 l0.length c0] rfl (by (try simp only [List.map_toArray, List.map_cons, List.map_nil]); first | done | rfl | (simp only [List.length_drop, List.length_take]; rfl)) ?_; (with_reducible refine (laws_toBlockS.calls kj12 _ _ l0 t233 _ ?side1 ?side2 A22.out).mono ?_); (case side1 => repeat (first | exact (Kd.C_below HR0.out HB.out) | (with_reducible refine Kd.C_alloc ?_ _) | (with_reducible refine Kd.C_drewN ?_ _) | (with_reducible refine Kd.C_drew ?_))); (case side2 => exact HC0.out); rintro e w25 ⟨v234, rfl, ho0, hb⟩; refine ⟨_, rfl, ?_⟩; have n0_ := Aside0.mk (Kd.R_elder' (by (with_reducible repeat (first | apply Kd.R_alloc | apply Kd.R_drewN | apply Kd.R_drew)); exact HO_10.out) (Kd.R_base ho0) hb); have n1_ := Aside0.mk (Kd.R_lower (Kd.R_new' ho0 (Kd.R_lt (by (with_reducible repeat (first | apply Kd.R_alloc | apply Kd.R_drewN | apply Kd.R_drew)); exact HO_10.out))) (below_size (by repeat (first | (with_reducible first | exact HB.out | apply below_alloc | apply pw_below_drewN | apply below_drew1) | exact HB.out)))); have n2_ := Aside0.mk (below_step (by repeat (first | (with_reducible first | exact HB.out | apply below_alloc | apply pw_below_drewN | apply below_drew1) | exact HB.out)) hb); clear HO_10; clear HB; have HO_10 := n0_; have HO235 := n1_; have HB := n2_; clear n0_ n1_ n2_; (try clear hb); (try clear hb2); (try clear hk); (try clear hi); (try clear ho0); obtain ⟨Ao26, co26, eo26⟩ := Kd.R_slice HO235.out; subst eo26) | ((with_reducible refine gate_callee (f := 14) rfl ?_); refine goesL_ (some 52) rfl rfl Try.func14 (by kernel_rfl) rfl #[.slice Ao18 t228.length co18, .slice Ao26 t233.length co26] rfl (by (try simp only [List.map_toArray, List.map_cons, List.map_nil]); first | done | rfl | (simp only [List.length_drop, List.length_take]; rfl)) ?_; (with_reducible refine (laws_eqBlockS.calls kj12 _ _ t228 _ _ t233 true _ ?side1 ?side2 ?side3 ?side4 A23.out).mono ?_); (case side1 => repeat (first | exact (Kd.R_reads' HO_10.out).2.2 | (with_reducible refine Kd.C_alloc ?_ _) | (with_reducible refine Kd.C_drewN ?_ _) | (with_reducible refine Kd.C_drew ?_))); (case side2 => exact (Kd.R_reads' HO_10.out).2.1); (case side3 => repeat (first | exact (Kd.R_reads' HO235.out).2.2 | (with_reducible refine Kd.C_alloc ?_ _) | (with_reducible refine Kd.C_drewN ?_ _) | (with_reducible refine Kd.C_drew ?_))); (case side4 => exact (Kd.R_reads' HO235.out).2.1); rintro e w27 ⟨rfl, hb⟩; refine ⟨_, rfl, ?_⟩; have n0_ := Aside0.mk (Kd.R_below (by (with_reducible repeat (first | apply Kd.R_alloc | apply Kd.R_drewN | apply Kd.R_drew)); exact HO_10.out) hb); have n1_ := Aside0.mk (Kd.R_below (by (with_reducible repeat (first | apply Kd.R_alloc | apply Kd.R_drewN | apply Kd.R_drew)); exact HO235.out) hb); have n2_ := Aside0.mk (below_step (by repeat (first | (with_reducible first | exact HB.out | apply below_alloc | apply pw_below_drewN | apply below_drew1) | exact HB.out)) hb); clear HO_10; clear HO235; clear HB; have HO_10 := n0_; have HO235 := n1_; have HB := n2_; clear n0_ n1_ n2_; (try clear hb); (try clear hb2); (try clear hk); (try clear hi)))
                go_ret
                exact ⟨by first | rfl | (simp [errW_none, errW_some] <;> rfl) | (simp [*, errW_none, errW_some] <;> rfl), by repeat (first | (with_reducible first | exact HB.out | apply below_alloc | apply pw_below_drewN | apply below_drew1) | exact HB.out)⟩
              · replace c24 := Bool.eq_false_iff.mpr c24
                subst c24
                have H1 : (some false) = some r := by rw [if_neg (show ¬ (false = true) by decide)] at H; exact H
                clear H
                have H := H1
                clear H1
                obtain rfl := Option.some.inj H
                go_wp2_with (first | ((with_reducible refine gate_callee (f := 12) rfl ?_); refine goesL_ (some 51) rfl rfl Try.func12 (by kernel_rfl) rfl #[.slice A0 l0.length c0] rfl (by (try simp only [List.map_toArray, List.map_cons, List.map_nil]); first | done | rfl | (simp only [List.length_drop, List.length_take]; rfl)) ?_; (with_reducible refine (laws_toBlockS.calls kj12 _ _ l0 t233 _ ?side1 ?side2 A22.out).mono ?_); (case side1 => repeat (first | exact (Kd.C_below HR0.out HB.out) | (with_reducible refine Kd.C_alloc ?_ _) | (with_reducible refine Kd.C_drewN ?_ _) | (with_reducible refine Kd.C_drew ?_))); (case side2 => exact HC0.out); rintro e w28 ⟨v234, rfl, ho0, hb⟩; refine ⟨_, rfl, ?_⟩; have n0_ := Aside0.mk (Kd.R_elder' (by (with_reducible repeat (first | apply Kd.R_alloc | apply Kd.R_drewN | apply Kd.R_drew)); exact HO_10.out) (Kd.R_base ho0) hb); have n1_ := Aside0.mk (Kd.R_lower (Kd.R_new' ho0 (Kd.R_lt (by (with_reducible repeat (first | apply Kd.R_alloc | apply Kd.R_drewN | apply Kd.R_drew)); exact HO_10.out))) (below_size (by repeat (first | (with_reducible first | exact HB.out | apply below_alloc | apply pw_below_drewN | apply below_drew1) | exact HB.out)))); have n2_ := Aside0.mk (below_step (by repeat (first | (with_reducible first | exact HB.out | apply below_alloc | apply pw_below_drewN | apply below_drew1) | exact HB.out)) hb); clear HO_10; clear HB; have HO_10 := n0_; have HO235 := n1_; have HB := n2_; clear n0_ n1_ n2_; (try clear hb); (try clear hb2); (try clear hk); (try clear hi); (try clear ho0); obtain ⟨Ao29, co29, eo29⟩ := Kd.R_slice HO235.out; subst eo29) | ((with_reducible refine gate_callee (f := 14) rfl ?_); refine goesL_ (some 52) rfl rfl Try.func14 (by kernel_rfl) rfl #[.slice Ao18 t228.length co18, .slice Ao29 t233.length co29] rfl (by (try simp only [List.map_toArray, List.map_cons, List.map_nil]); first | done | rfl | (simp only [List.length_drop, List.length_take]; rfl)) ?_; (with_reducible refine (laws_eqBlockS.calls kj12 _ _ t228 _ _ t233 false _ ?side1 ?side2 ?side3 ?side4 A23.out).mono ?_); (case side1 => repeat (first | exact (Kd.R_reads' HO_10.out).2.2 | (with_reducible refine Kd.C_alloc ?_ _) | (with_reducible refine Kd.C_drewN ?_ _) | (with_reducible refine Kd.C_drew ?_))); (case side2 => exact (Kd.R_reads' HO_10.out).2.1); (case side3 => repeat (first | exact (Kd.R_reads' HO235.out).2.2 | (with_reducible refine Kd.C_alloc ?_ _) | (with_reducible refine Kd.C_drewN ?_ _) | (with_reducible refine Kd.C_drew ?_))); (case side4 => exact (Kd.R_reads' HO235.out).2.1); rintro e w30 ⟨rfl, hb⟩; refine ⟨_, rfl, ?_⟩; have n0_ := Aside0.mk (Kd.R_below (by (with_reducible repeat (first | apply Kd.R_alloc | apply Kd.R_drewN | apply Kd.R_drew)); exact HO_10.out) hb); have n1_ := Aside0.mk (Kd.R_below (by (with_reducible repeat (first | apply Kd.R_alloc | apply Kd.R_drewN | apply Kd.R_drew)); exact HO235.out) hb); have n2_ := Aside0.mk (below_step (by repeat (first | (with_reducible first | exact HB.out | apply below_alloc | apply pw_below_drewN | apply below_drew1) | exact HB.out)) hb); clear HO_10; clear HO235; clear HB; have HO_10 := n0_; have HO235 := n1_; have HB := n2_; clear n0_ n1_ n2_; (try clear hb); (try clear hb2); (try clear hk); (try clear hi)))
                go_ret
                exact ⟨by first | rfl | (simp [errW_none, errW_some] <;> rfl) | (simp [*, errW_none, errW_some] <;> rfl), by repeat (first | (with_reducible first | exact HB.out | apply below_alloc | apply pw_below_drewN | apply below_drew1) | exact HB.out)⟩
end Go.Proofs.Ytnabckhhnknlaaa.XD
end

section
namespace Go.Proofs.Ytnabckhhnknlaaa.Open
open Go.ChangeShapes Go.WideShapes Go.RowKit Go.Proofs.YtnabckhhnknlaaaW.PrintWords
set_option linter.unusedVariables false
def Opens (P : Program) (t : TypeId) {α : Type} (d : Kd α) (Q : α → Prop) : Prop :=
  P.cellsOf t = d.sz ∧ ∀ (H : Type) (enc : TypeId × Value → H) (w : World) (base : Nat) (spare : Nat → Bool) (held : Bool) (fuel : Nat) (cs : List Value) (x : DataW H × List MemPlace),
    DataW.trod enc P w base spare held fuel t cs = some x → ∃ a : α, d.K w a cs ∧ Q a
theorem Opens.int {P : Program} {t : TypeId} {k : IntKind} (hu : P.underlying t = some (.int k)) (hc : P.cellsOf t = 1) : Opens P t (Kd.int k) (fun n => (Lit.int k n).wf = true) := by
  refine ⟨hc, fun H enc w base spare held fuel cs x h => ?_⟩
  obtain ⟨n, rfl, _, hw⟩ := DataW.trod_int hu h
  exact ⟨n, rfl, hw⟩
theorem Opens.bool {P : Program} {t : TypeId} (hu : P.underlying t = some .bool) (hc : P.cellsOf t = 1) : Opens P t Kd.bool (fun _ => True) := by
  refine ⟨hc, fun H enc w base spare held fuel cs x h => ?_⟩
  obtain ⟨b, rfl, _⟩ := DataW.trod_bool hu h
  exact ⟨b, rfl, trivial⟩
theorem Opens.string {P : Program} {t : TypeId} (hu : P.underlying t = some .string) (hc : P.cellsOf t = 1) : Opens P t Kd.string (fun s => s.size ≤ maxLen) := by
  refine ⟨hc, fun H enc w base spare held fuel cs x h => ?_⟩
  obtain ⟨s, rfl, _, hs⟩ := DataW.trod_string hu h
  exact ⟨s, rfl, hs⟩
theorem choose_list {α : Type} {n : Nat} {p : Nat → α → Prop} (h : ∀ i, i < n → ∃ x, p i x) : ∃ l : List α, l.length = n ∧ ∀ i x, l[i]? = some x → p i x := by
  induction n with
  | zero => exact ⟨[], rfl, fun i x hx => by simp at hx⟩
  | succ n ih =>
    obtain ⟨l, hl, hp⟩ := ih (fun i hi => h i (by omega))
    obtain ⟨x, hx⟩ := h n (by omega)
    refine ⟨l ++ [x], by simp [hl], fun i y hy => ?_⟩
    rcases Nat.lt_or_ge i l.length with hi | hi
    · rw [List.getElem?_append_left hi] at hy
      exact hp i y hy
    · have : i = l.length := by
        have := (List.getElem?_eq_some_iff.1 hy).1
        simp at this
        omega
      subst this
      simp at hy
      subst hy
      rw [hl]
      exact hx
theorem cells?_get {w : World} {base : Nat} {a : Addr} {n : Nat} {cs : List Value} (h : w.cells? base a n = some cs) (i : Nat) (u : Value) (hu : cs[i]? = some u) : w.cell? (a.add i) = some u := by
  unfold World.cells? at h
  split at h
  · have hlen : cs.length = n := by simpa using mapM_some_length h
    have hi : i < n := by
      have := (List.getElem?_eq_some_iff.1 hu).1
      omega
    have := mapM_some_get h i i (by simp [hi])
    rw [hu] at this
    exact this
  · cases h
theorem Opens.slice {P : Program} {t e : TypeId} {α : Type} {d : Kd α} {Q : α → Prop} (hu : P.underlying t = some (.slice e)) (hc : P.cellsOf t = 1) (hd : Opens P e d Q) :
    Opens P t (Kd.slice e d) (fun xs => xs.length ≤ maxLen ∧ ∀ x ∈ xs, Q x) := by
  refine ⟨hc, fun H enc w base spare held fuel cs x h => ?_⟩
  rcases Go.Deep.open_slice hu h with ⟨rfl, _⟩ | ⟨a, len, cap, m, n, D, Pl, rfl, _, hl, hm, hmm, _, hx⟩
  · exact ⟨[], ⟨none, 0, rfl, Nat.le_refl _, rfl, by simp, fun h => absurd h (by simp)⟩, by simp, fun x hx => by simp at hx⟩
  · have hlm : len ≤ m := by rw [hmm]; split <;> omega
    obtain ⟨l, hl1, hp⟩ := choose_list (n := len) (p := fun i (x : α) => ∃ cs', w.cells? base (a.add (i * d.sz)) d.sz = some cs' ∧ d.K w x cs' ∧ Q x) (fun i hi => by
      obtain ⟨cs', h1, h2⟩ := hx i (by omega)
      rw [hd.1] at h1
      obtain ⟨y, hy, hq⟩ := hd.2 H enc w base spare held n cs' _ h2
      exact ⟨y, cs', h1, hy, hq⟩)
    have hmax : (maxLen : Nat) = 9223372036854775807 := by unfold maxLen; omega
    refine ⟨l, ⟨some a, cap, by rw [hl1], by omega, rfl, by omega, fun _ => ⟨a, rfl, fun j p hj => ?_⟩⟩, by omega, fun x hx => ?_⟩
    · obtain ⟨cs', h1, h2, _⟩ := hp j p hj
      refine ⟨cs', d.K_len h2, h2, fun i u hi => ?_⟩
      have := cells?_get h1 i u hi
      rwa [Go.Deep.add_add] at this
    · obtain ⟨i, hi, rfl⟩ := List.mem_iff_getElem.1 hx
      obtain ⟨cs', _, _, h3⟩ := hp i _ (List.getElem?_eq_getElem hi)
      exact h3
def OpensF (P : Program) (fs : List Field) (off : Nat) {α : Type} (d : Kd α) (Q : α → Prop) : Prop :=
  ∀ (H : Type) (enc : TypeId × Value → H) (w : World) (base : Nat) (spare : Nat → Bool) (held : Bool) (n : Nat) (cs : List Value), off + d.sz = cs.length →
    (∀ f ∈ fs, ∃ y, DataW.trod enc P w base spare held n f.type ((cs.drop f.offset).take (P.cellsOf f.type)) = some y) → ∃ a : α, d.K w a (cs.drop off) ∧ Q a
theorem OpensF.one {P : Program} {f : Field} {off : Nat} {α : Type} {d : Kd α} {Q : α → Prop} (ho : f.offset = off) (h : Opens P f.type d Q) : OpensF P [f] off d Q := by
  intro H enc w base spare held n cs hl hf
  obtain ⟨y, hy⟩ := hf f List.mem_cons_self
  rw [ho, h.1, List.take_of_length_le (by rw [List.length_drop]; omega)] at hy
  exact h.2 H enc w base spare held n _ y hy
theorem OpensF.cons {P : Program} {f : Field} {fs : List Field} {off : Nat} {α β : Type} {d1 : Kd α} {d2 : Kd β} {Q1 : α → Prop} {Q2 : β → Prop} (ho : f.offset = off) (h : Opens P f.type d1 Q1) (hs : OpensF P fs (off + d1.sz) d2 Q2) :
    OpensF P (f :: fs) off (Kd.pair d1 d2) (fun x => Q1 x.1 ∧ Q2 x.2) := by
  intro H enc w base spare held n cs hl hf
  have hl' : off + (d1.sz + d2.sz) = cs.length := hl
  obtain ⟨y, hy⟩ := hf f List.mem_cons_self
  rw [ho, h.1] at hy
  obtain ⟨a, ha, qa⟩ := h.2 H enc w base spare held n _ y hy
  obtain ⟨b, hb, qb⟩ := hs H enc w base spare held n cs (by omega) (fun g hg => hf g (List.mem_cons_of_mem _ hg))
  refine ⟨(a, b), ⟨_, _, ?_, ha, hb⟩, qa, qb⟩
  rw [← List.drop_drop, List.take_append_drop]
theorem Opens.struct {P : Program} {t : TypeId} {fs : Array Field} {α β : Type} {d : Kd α} {Q : α → Prop} (f : β → α) (g : α → β) (hfg : ∀ x, f (g x) = x) (hu : P.underlying t = some (.struct fs)) (hc : P.cellsOf t = d.sz) (h : OpensF P fs.toList 0 d Q) :
    Opens P t (Kd.iso d f) (fun x => Q (f x)) := by
  refine ⟨hc, fun H enc w base spare held fuel cs x hx => ?_⟩
  obtain ⟨xs, n, rfl, _, hl, hxs, hf⟩ := DataW.trod_struct hu hx
  obtain ⟨a, ha, qa⟩ := h H enc w base spare held n cs (by omega) (fun f hf0 => by
    obtain ⟨i, hi, rfl⟩ := List.mem_iff_getElem.1 hf0
    have hi' : i < fs.size := by simpa using hi
    have := hf i fs[i] (Array.getElem?_eq_getElem hi')
    rw [List.getElem?_eq_getElem (by omega)] at this
    exact ⟨_, by simpa using this⟩)
  refine ⟨g a, ?_, ?_⟩
  · show d.K w (f (g a)) cs
    rw [hfg]
    simpa using ha
  · show Q (f (g a))
    rw [hfg]
    exact qa
theorem open_sl {H : Type} {enc : TypeId × Value → H} {P : Program} {W : World} {base B : Nat} {spare : Nat → Bool} {held : Bool} {t e : TypeId} {v : Value} {dd : DataW H} {ps : List MemPlace} {α : Type} {d : Kd α} {Q : α → Prop}
    (hu : P.underlying t = some (.slice e)) (hc : P.cellsOf t = 1) (hd : Opens P e d Q) (hv : Value.okWide P W .any B t v) (h : DataW.Trod enc P W base spare held t v dd ps) :
    ∃ (A : Option Addr) (c : Nat) (l : List α), v = .slice A l.length c ∧ l.length ≤ c ∧ Kd.C d W A l.length l ∧ l.length ≤ maxLen ∧ ∀ x ∈ l, Q x := by
  obtain ⟨a0, len, cap, rfl⟩ := okWide_slice hu hv
  obtain ⟨fuel, hf⟩ := h
  obtain ⟨l, ⟨A, c, he, hl, hC⟩, hm, hq⟩ := (Opens.slice hu hc hd).2 H enc W base spare held fuel _ _ hf
  refine ⟨A, c, l, ?_, hl, hC, hm, hq⟩
  simpa [Value.cells] using he
end Go.Proofs.Ytnabckhhnknlaaa.Open
end

section
namespace Go.Proofs.Ytnabckhhnknlaaa.XD
open Go.RowKit Go.Proofs.YtnabckhhnknlaaaW.PrintWords Go.Proofs.Ytnabckhhnknlaaa.Open
set_option linter.unusedVariables false
def Q42 (x : S42) : Prop := (x.f0.size ≤ maxLen) ∧ (x.f1.size ≤ maxLen) ∧ (x.f2.size ≤ maxLen)
theorem opens42 : Opens Try.prog 42 k42 Q42 := Opens.struct (fun x : S42 => (x.f0, x.f1, x.f2)) (fun p => (⟨p.1, p.2.1, p.2.2⟩ : S42)) (fun _ => rfl) Try.underlying42 (by kernel_rfl) (OpensF.cons rfl (Opens.string Try.underlying9 (by kernel_rfl)) (OpensF.cons rfl (Opens.string Try.underlying9 (by kernel_rfl)) (OpensF.one rfl (Opens.string Try.underlying9 (by kernel_rfl)))))
end Go.Proofs.Ytnabckhhnknlaaa.XD
end

section
namespace Go.Proofs.Ytnabckhhnknlaaa.XD
open Go.RowKit Go.Proofs.YtnabckhhnknlaaaW.PrintWords
def laws_FnExactBlockNamed.Pure : Prop := ∀ (a0 : List (S42)), ∀ (a1 : ByteArray), ∀ (a2 : ByteArray), ((a0.length ≤ maxLen ∧ ∀ y2 ∈ a0, Q42 y2)) → (a1.size ≤ 140737488351232) → (a2.size ≤ 140737488351232) → ∃ k, laws_FnExactBlockNamed.f k a0 a1 a2 = some true
end Go.Proofs.Ytnabckhhnknlaaa.XD
end

section
namespace Go.Proofs.Ytnabckhhnknlaaa.EvK
open Go.RowKit Go.Proofs.YtnabckhhnknlaaaW.PrintWords
set_option linter.unusedVariables false
theorem w64 {n : Int} (h : -9223372036854775808 ≤ n) (h' : n ≤ 9223372036854775807) : wrap64 n = n := by unfold wrap64; omega
theorem Ev.some {α : Type} {a r : α} (h : a = r) : Ev (fun _ => Option.some a) r := h ▸ Ev.now a
theorem Ev.bind_some {α β : Type} {g : Nat → Option α} {f : Nat → α → Option β} {a : α} {r : β} (h : Ev g a) (k : Ev (fun n => f n a) r) : Ev (fun n => (g n).bind (f n)) r := Ev.bind h k
theorem getD_at {α : Type} (l : List α) (d : α) (i : Nat) (h : i < l.length) : l.getD (i : Int).toNat d = l[i] := by
  simp [List.getD_eq_getElem?_getD, List.getElem?_eq_getElem h]
theorem map_done {α β : Type} (f : α → β) (l : List α) (z : β) (i : Nat) (h : i < l.length) :
    ((l.take i).map f ++ List.replicate (l.length - i) z).set i (f l[i]) = (l.take (i + 1)).map f ++ List.replicate (l.length - (i + 1)) z := by
  have e : l.length - i = (l.length - (i + 1)) + 1 := by omega
  rw [List.set_append_right _ _ (by simp; omega), e, List.replicate_succ]
  have e2 : i - ((l.take i).map f).length = 0 := by simp; omega
  rw [e2, List.set_cons_zero, List.take_succ_eq_append_getElem h, List.map_append]
  simp
theorem done_len {α β : Type} (f : α → β) (l : List α) (z : β) (i : Nat) (h : i ≤ l.length) : ((l.take i).map f ++ List.replicate (l.length - i) z).length = l.length := by simp; omega
def EvP {α : Type} (g : Nat → Option α) (P : α → Prop) : Prop := ∃ r, Ev g r ∧ P r
theorem EvP.now {α : Type} {r : α} {P : α → Prop} (h : P r) : EvP (fun _ => Option.some r) P := ⟨r, Ev.now r, h⟩
theorem EvP.of {α : Type} {g : Nat → Option α} {r : α} {P : α → Prop} (h : Ev g r) (hp : P r) : EvP g P := ⟨r, h, hp⟩
theorem EvP.mono {α : Type} {g : Nat → Option α} {P Q : α → Prop} (h : EvP g P) (hp : ∀ r, P r → Q r) : EvP g Q := by
  obtain ⟨r, h1, h2⟩ := h
  exact ⟨r, h1, hp _ h2⟩
theorem EvP.eq {α : Type} {g : Nat → Option α} {r : α} (h : EvP g (· = r)) : Ev g r := by
  obtain ⟨r', h, rfl⟩ := h
  exact h
theorem EvP.step {α : Type} {g f : Nat → Option α} {P : α → Prop} (h : ∀ k, g (k + 1) = f k) (k : EvP f P) : EvP g P := by
  obtain ⟨r, h1, h2⟩ := k
  exact ⟨r, Ev.step h h1, h2⟩
theorem EvP.bind {α β : Type} {g : Nat → Option α} {f : Nat → α → Option β} {a : α} {P : β → Prop} (h : Ev g a) (k : EvP (fun n => f n a) P) : EvP (fun n => (g n).bind (f n)) P := by
  obtain ⟨r, h1, h2⟩ := k
  exact ⟨r, Ev.bind h h1, h2⟩
theorem EvP.bindP {α β : Type} {g : Nat → Option α} {f : Nat → α → Option β} {Q : α → Prop} {P : β → Prop} (h : EvP g Q) (k : ∀ a, Q a → EvP (fun n => f n a) P) : EvP (fun n => (g n).bind (f n)) P := by
  obtain ⟨a, ha, hq⟩ := h
  exact EvP.bind ha (k a hq)
theorem EvP.rounds {α : Type} {g : Nat → Option α} {r : α} (h : EvP g (· = r)) : ∃ k, g k = Option.some r := Ev.rounds (EvP.eq h)
theorem for_evp {σ ρ : Type} {L : Nat → σ → Int → Option ρ} {Post : ρ → Prop} (n : Nat) (inv : Nat → σ → Prop)
    (step : ∀ (i : Nat) (s : σ), i < n → inv i s → (∀ s', inv (i + 1) s' → EvP (fun k => L k s' ((i : Int) + 1)) Post) → EvP (fun k => L k s i) Post)
    (fin : ∀ s, inv n s → EvP (fun k => L k s n) Post) (s : σ) (h0 : inv 0 s) : EvP (fun k => L k s 0) Post := by
  have key : ∀ (d i : Nat) (s : σ), i + d = n → inv i s → EvP (fun k => L k s i) Post := by
    intro d
    induction d with
    | zero =>
      intro i s hi hs
      obtain rfl : i = n := by omega
      exact fin s hs
    | succ d ih =>
      intro i s hi hs
      refine step i s (by omega) hs (fun s' hs' => ?_)
      simpa using ih (i + 1) s' (by omega) hs'
  simpa using key n 0 s (by omega) h0
theorem take_all {α : Type} {p : α → Prop} {l : List α} {i : Nat} (h : i < l.length) (hs : ∀ x ∈ l.take i, p x) (hx : p l[i]) : ∀ x ∈ l.take (i + 1), p x := by
  rw [List.take_succ_eq_append_getElem h]
  intro x hm
  rcases List.mem_append.1 hm with hm | hm
  · exact hs x hm
  · rw [List.mem_singleton.1 hm]
    exact hx
theorem all_ev {α : Type} {L : Nat → Int → Option Bool} (l : List α) (p : α → Bool) (b : Bool)
    (step : ∀ (i : Nat) (h : i < l.length), p l[i] = true → ∀ P, EvP (fun k => L k ((i : Int) + 1)) P → EvP (fun k => L k i) P)
    (stop : ∀ (i : Nat) (h : i < l.length), p l[i] = false → Ev (fun k => L k i) false)
    (fin : Ev (fun k => L k l.length) b) : Ev (fun k => L k 0) (l.all p && b) := by
  apply EvP.eq
  refine for_evp (L := fun k (_ : Unit) i => L k i) l.length (fun i _ => ∀ x ∈ l.take i, p x = true) ?_ ?_ () (by simp)
  · intro i _ hi hs K
    cases hp : p l[i] with
    | true => exact step i hi hp _ (K () (take_all hi hs hp))
    | false =>
      have e : l.all p = false := by
        rw [List.all_eq_false]
        exact ⟨l[i], List.getElem_mem hi, by simp [hp]⟩
      rw [e]
      exact EvP.of (stop i hi hp) rfl
  · intro _ hs
    have e : l.all p = true := by
      rw [List.all_eq_true]
      simpa using hs
    rw [e]
    exact EvP.of fin rfl
theorem bytes_at_ (s : ByteArray) (i : Nat) (h : i < s.data.toList.length) : bt s (i : Int) = ((s.data.toList[i]).toNat : Int) := by
  have h' : i < s.size := by simpa using h
  unfold bt
  rw [dif_pos (by simpa using h')]
  simp
  rfl
theorem size_len (s : ByteArray) : (s.size : Int) = (s.data.toList.length : Int) := by simp
theorem size_len' (s : ByteArray) : s.size = s.data.toList.length := by simp
end Go.Proofs.Ytnabckhhnknlaaa.EvK
end

section
namespace Go.Proofs.Ytnabckhhnknlaaa.PBasics
open Go.RowKit Go.Proofs.YtnabckhhnknlaaaW.PrintWords Go.Proofs.Ytnabckhhnknlaaa.XD Go.Proofs.Ytnabckhhnknlaaa.EvK
set_option linter.unusedVariables false
set_option linter.unusedSimpArgs false
def smallB (c : UInt8) : Bool := decide (97 ≤ (c.toNat : Int)) && decide ((c.toNat : Int) ≤ 122)
def digB (c : UInt8) : Bool := decide (48 ≤ (c.toNat : Int)) && decide ((c.toNat : Int) ≤ 57)
def nameB (c : UInt8) : Bool := smallB c || digB c
def nameOk (s : ByteArray) : Bool := match s.data.toList with
  | [] => false
  | c :: l => decide ((s.size : Int) ≤ 10) && smallB c && (c :: l).all nameB
theorem small_eq (c : UInt8) : spec_l01Small.f (c.toNat : Int) = some (smallB c) := by
  unfold spec_l01Small.f smallB
  by_cases h : (c.toNat : Int) ≥ 97
  · rw [if_pos h, decide_eq_true (show (97 : Int) ≤ c.toNat from h), Bool.true_and]
  · rw [if_neg h, decide_eq_false (show ¬ (97 : Int) ≤ c.toNat from h), Bool.false_and]
theorem dig_eq (c : UInt8) : spec_l01Digit.f (c.toNat : Int) = some (digB c) := by
  unfold spec_l01Digit.f digB
  by_cases h : (c.toNat : Int) ≥ 48
  · rw [if_pos h, decide_eq_true (show (48 : Int) ≤ c.toNat from h), Bool.true_and]
  · rw [if_neg h, decide_eq_false (show ¬ (48 : Int) ≤ c.toNat from h), Bool.false_and]
theorem onlyName_ev (s : ByteArray) (h : s.size ≤ 1048576) : Ev (fun k => impl_onlyNameBytes.f k s) (s.data.toList.all nameB) := by
  unfold impl_onlyNameBytes.f
  rw [size_len'] at h
  have := all_ev (L := fun k i => impl_onlyNameBytes.l0 k s (s.size : Int) i) s.data.toList nameB true ?_ ?_ ?_
  · simpa using this
  · intro i hi hp P K
    refine EvP.step (fun k => impl_onlyNameBytes.l0.eq_2 _ _ _ k) ?_
    simp only [size_len] at K
    simp only [size_len, if_pos (show (i : Int) < (s.data.toList.length : Int) by omega), if_pos (show (0 : Int) ≤ (i : Int) by omega), bytes_at_ s i hi, w64 (show -9223372036854775808 ≤ (i : Int) + 1 by omega) (by omega)]
    simp only [nameB, smallB, digB, Bool.or_eq_true, Bool.and_eq_true, decide_eq_true_eq] at hp
    by_cases h1 : ((s.data.toList[i]).toNat : Int) < 97
    · simp only [if_pos h1, if_neg (show ¬ ((s.data.toList[i]).toNat : Int) < 48 by omega), if_neg (show ¬ ((s.data.toList[i]).toNat : Int) > 57 by omega)]
      exact K
    · simp only [if_neg h1, if_neg (show ¬ ((s.data.toList[i]).toNat : Int) > 122 by omega)]
      exact K
  · intro i hi hp
    refine Ev.step (fun k => impl_onlyNameBytes.l0.eq_2 _ _ _ k) ?_
    simp only [size_len, if_pos (show (i : Int) < (s.data.toList.length : Int) by omega), if_pos (show (0 : Int) ≤ (i : Int) by omega), bytes_at_ s i hi, w64 (show -9223372036854775808 ≤ (i : Int) + 1 by omega) (by omega)]
    simp only [nameB, smallB, digB, Bool.or_eq_false_iff, Bool.and_eq_false_iff, decide_eq_false_iff_not] at hp
    by_cases h1 : ((s.data.toList[i]).toNat : Int) < 97
    · by_cases h2 : ((s.data.toList[i]).toNat : Int) < 48
      · simp only [if_pos h1, if_pos h2]; exact Ev.now _
      · simp only [if_pos h1, if_neg h2, if_pos (show ((s.data.toList[i]).toNat : Int) > 57 by omega)]; exact Ev.now _
    · simp only [if_neg h1, if_pos (show ((s.data.toList[i]).toNat : Int) > 122 by omega), if_neg (show ¬ ((s.data.toList[i]).toNat : Int) < 48 by omega), if_pos (show ((s.data.toList[i]).toNat : Int) > 57 by omega)]
      exact Ev.now _
  · refine Ev.step (fun k => impl_onlyNameBytes.l0.eq_2 _ _ _ k) ?_
    simp only [size_len, if_neg (show ¬ (s.data.toList.length : Int) < (s.data.toList.length : Int) by omega)]
    exact Ev.now _
theorem head_at (s : ByteArray) (c : UInt8) (l : List UInt8) (hl : s.data.toList = c :: l) : bt s 0 = (c.toNat : Int) := by
  have h : 0 < s.data.toList.length := by rw [hl]; simp
  have := bytes_at_ s 0 h
  rw [show ((0 : Nat) : Int) = 0 from rfl] at this
  rw [this]
  simp only [hl, List.getElem_cons_zero]
theorem isName_ev (s : ByteArray) (h : s.size ≤ 1048576) : Ev (fun k => impl_IsName.f k s) (nameOk s) := by
  unfold impl_IsName.f nameOk
  cases hl : s.data.toList with
  | nil =>
    have hz : s.size = 0 := by rw [size_len', hl]; rfl
    simp only [hz, Int.natCast_zero, if_pos (show (0 : Int) < 1 by omega)]
    exact Ev.now _
  | cons c l =>
    have hz : s.size = l.length + 1 := by rw [size_len', hl]; rfl
    have ho := onlyName_ev s h
    rw [hl] at ho
    simp only [if_neg (show ¬ (s.size : Int) < 1 by omega), if_pos (show (0 : Int) < (s.size : Int) by omega), head_at s c l hl]
    by_cases h1 : (s.size : Int) > 10
    · simp only [if_pos h1, decide_eq_false (show ¬ (s.size : Int) ≤ 10 by omega), Bool.false_and]
      exact Ev.now _
    · simp only [if_neg h1, decide_eq_true (show (s.size : Int) ≤ 10 by omega), Bool.true_and]
      by_cases h2 : (c.toNat : Int) < 97
      · simp only [if_pos h2, smallB, decide_eq_false (show ¬ (97 : Int) ≤ c.toNat by omega), Bool.false_and]
        exact Ev.now _
      · by_cases h3 : (c.toNat : Int) > 122
        · simp only [if_neg h2, if_pos h3, smallB, decide_eq_false (show ¬ (c.toNat : Int) ≤ 122 by omega), Bool.false_and, Bool.and_false]
          exact Ev.now _
        · simp only [if_neg h2, if_neg h3, smallB, decide_eq_true (show (97 : Int) ≤ c.toNat by omega), decide_eq_true (show (c.toNat : Int) ≤ 122 by omega), Bool.true_and]
          exact Ev.bind ho (Ev.now _)
theorem toList_eq (s : ByteArray) : s.toList = s.data.toList := by
  have := Lib.toList_data s
  first | exact this | exact this.symm
theorem specName_ev (s : ByteArray) (h : s.size ≤ 1048576) : Ev (fun k => spec_l01Name.f k s) (nameOk s) := by
  unfold spec_l01Name.f nameOk
  have hj : Ev (fun k => spec_l01Name.j0 k s true) false := by
    refine Ev.step (fun k => spec_l01Name.j0.eq_2 _ _ k) ?_
    simp only [if_true]
    exact Ev.now _
  cases hl : s.data.toList with
  | nil =>
    simp only [toList_eq, hl, if_true]
    exact hj
  | cons c l =>
    have hz : s.size = l.length + 1 := by rw [size_len', hl]; rfl
    simp only [toList_eq, hl, reduceCtorEq, if_false, if_pos (show (0 : Int) < (s.size : Int) by omega), head_at s c l hl, small_eq, Option.bind_some]
    by_cases h1 : (s.size : Int) > 10
    · simp only [if_pos h1, decide_eq_false (show ¬ (s.size : Int) ≤ 10 by omega), Bool.false_and]
      exact hj
    simp only [if_neg h1, decide_eq_true (show (s.size : Int) ≤ 10 by omega), Bool.true_and]
    cases hs : smallB c with
    | false =>
      simp only [Bool.not_false, Bool.false_and]
      exact hj
    | true =>
      simp only [Bool.not_true, Bool.true_and]
      refine Ev.step (fun k => spec_l01Name.j0.eq_2 _ _ k) ?_
      simp only [Bool.false_eq_true, if_false]
      rw [← hl]
      rw [size_len'] at h
      have := all_ev (L := fun k i => spec_l01Name.l0 k s i) s.data.toList nameB true ?_ ?_ ?_
      · simpa using this
      · intro i hi hp P K
        refine EvP.step (fun k => spec_l01Name.l0.eq_2 _ _ k) ?_
        simp only [size_len, if_pos (show (i : Int) < (s.data.toList.length : Int) by omega), if_pos (show (0 : Int) ≤ (i : Int) by omega), bytes_at_ s i hi, w64 (show -9223372036854775808 ≤ (i : Int) + 1 by omega) (by omega), small_eq, dig_eq, Option.bind_some]
        cases h2 : smallB s.data.toList[i] with
        | true => simp only [if_true]; exact K
        | false =>
          simp only [nameB, h2, Bool.false_or] at hp
          simp only [hp, Bool.false_eq_true, if_false, if_true]
          exact K
      · intro i hi hp
        refine Ev.step (fun k => spec_l01Name.l0.eq_2 _ _ k) ?_
        simp only [nameB, Bool.or_eq_false_iff] at hp
        simp only [size_len, if_pos (show (i : Int) < (s.data.toList.length : Int) by omega), if_pos (show (0 : Int) ≤ (i : Int) by omega), bytes_at_ s i hi, w64 (show -9223372036854775808 ≤ (i : Int) + 1 by omega) (by omega), small_eq, dig_eq, Option.bind_some, hp.1, hp.2, Bool.false_eq_true, if_false]
        exact Ev.now _
      · refine Ev.step (fun k => spec_l01Name.l0.eq_2 _ _ k) ?_
        simp only [size_len, if_neg (show ¬ (s.data.toList.length : Int) < (s.data.toList.length : Int) by omega)]
        exact Ev.now _
end Go.Proofs.Ytnabckhhnknlaaa.PBasics
end

section
namespace Go.Proofs.Ytnabckhhnknlaaa.EvK
open Go.RowKit Go.Proofs.YtnabckhhnknlaaaW.PrintWords
set_option linter.unusedVariables false
theorem all_to {α ρ : Type} {L : Nat → Int → Option ρ} (l : List α) (p : α → Bool) (yes no : ρ)
    (step : ∀ (i : Nat) (h : i < l.length), p l[i] = true → ∀ P, EvP (fun k => L k ((i : Int) + 1)) P → EvP (fun k => L k i) P)
    (stop : ∀ (i : Nat) (h : i < l.length), p l[i] = false → Ev (fun k => L k i) no)
    (fin : l.all p = true → Ev (fun k => L k l.length) yes) : Ev (fun k => L k 0) (if l.all p = true then yes else no) := by
  apply EvP.eq
  refine for_evp (L := fun k (_ : Unit) i => L k i) l.length (fun i _ => ∀ x ∈ l.take i, p x = true) ?_ ?_ () (by simp)
  · intro i _ hi hs K
    cases hp : p l[i] with
    | true => exact step i hi hp _ (K () (take_all hi hs hp))
    | false =>
      have e : l.all p = false := by
        rw [List.all_eq_false]
        exact ⟨l[i], List.getElem_mem hi, by simp [hp]⟩
      rw [e]
      exact EvP.of (stop i hi hp) rfl
  · intro _ hs
    have e : l.all p = true := by
      rw [List.all_eq_true]
      simpa using hs
    rw [e]
    exact EvP.of (fin e) rfl
theorem all_n {ρ : Type} {L : Nat → Int → Option ρ} (n : Nat) (p : Nat → Bool) (yes no : ρ)
    (step : ∀ (i : Nat), i < n → p i = true → ∀ P, EvP (fun k => L k ((i : Int) + 1)) P → EvP (fun k => L k i) P)
    (stop : ∀ (i : Nat), i < n → p i = false → Ev (fun k => L k i) no)
    (fin : Ev (fun k => L k n) yes) : Ev (fun k => L k 0) (if (List.range n).all p = true then yes else no) := by
  have := all_to (L := L) (List.range n) p yes no ?_ ?_ ?_
  · exact this
  · intro i hi hp P K
    simp only [List.length_range, List.getElem_range] at hi hp
    exact step i hi hp P K
  · intro i hi hp
    simp only [List.length_range, List.getElem_range] at hi hp
    exact stop i hi hp
  · intro _
    simpa using fin
theorem contains_byte (l : List UInt8) (c : UInt8) : Lib.contains l [c] = !(l.all (fun x => !(x == c))) := by
  unfold Lib.contains
  rw [Lib.index_one]
  by_cases h : 0 ≤ Lib.indexByte l c
  · obtain ⟨h1, _⟩ := Lib.indexByte_some (l := l) (c := c) (o := (Lib.indexByte l c).toNat) (by omega)
    have e : l.all (fun x => !(x == c)) = false := by
      rw [List.all_eq_false]
      exact ⟨c, List.mem_of_getElem? h1, by simp⟩
    rw [decide_eq_true h, e]; rfl
  · have hm : Lib.indexByte l c = -1 := by have := Lib.indexByte_ge l c; omega
    have hn := Lib.indexByte_none hm
    have e : l.all (fun x => !(x == c)) = true := by
      rw [List.all_eq_true]
      intro x hx
      obtain ⟨k, hk⟩ := List.getElem?_of_mem hx
      have := hn k
      rw [hk] at this
      simpa using this
    rw [decide_eq_false h, e]; rfl
end Go.Proofs.Ytnabckhhnknlaaa.EvK
end

section
namespace Go.Proofs.Ytnabckhhnknlaaa.PBlocks
open Go.RowKit Go.Proofs.YtnabckhhnknlaaaW.PrintWords Go.Proofs.Ytnabckhhnknlaaa.XD Go.Proofs.Ytnabckhhnknlaaa.EvK Go.Proofs.Ytnabckhhnknlaaa.PBasics
set_option linter.unusedVariables false
set_option linter.unusedSimpArgs false
def noNl (t : ByteArray) : Bool := t.data.toList.all (fun x => !(x == 10))
def blockOk (a b t : ByteArray) : Bool := nameOk a && (nameOk b && (decide ((t.size : Int) ≤ 400) && noNl t))
theorem validBlock_ev (a b t : ByteArray) (ha : a.size ≤ 1048576) (hb : b.size ≤ 1048576) (ht : t.size ≤ 1048576) : Ev (fun k => impl_ValidBlock.f k a b t) (blockOk a b t) := by
  unfold impl_ValidBlock.f blockOk strings_Contains.f
  rw [if_pos (show t.size < 4294967281 by omega)]
  refine Ev.bind (isName_ev a ha) ?_
  cases nameOk a with
  | false => exact Ev.now _
  | true =>
    simp only [if_true, Bool.true_and]
    refine Ev.bind (isName_ev b hb) ?_
    cases nameOk b with
    | false => exact Ev.now _
    | true =>
      simp only [if_true, Bool.true_and]
      by_cases h : (t.size : Int) ≤ 400
      · simp only [if_pos h, Option.bind_some, decide_eq_true h, Bool.true_and, contains_byte t.data.toList 10, Bool.not_not]
        exact Ev.now _
      · simp only [if_neg h, decide_eq_false h, Bool.false_and]
        exact Ev.now _
theorem oneBlock_ev (a b t : ByteArray) (ha : a.size ≤ 1048576) (hb : b.size ≤ 1048576) (ht : t.size ≤ 1048576) : Ev (fun k => spec_l29One.f k a b t) (blockOk a b t) := by
  unfold spec_l29One.f
  rw [size_len'] at ht
  have e : blockOk a b t = if (t.data.toList.all fun x => !(x == 10)) = true then (nameOk a && (nameOk b && decide ((t.size : Int) ≤ 400))) else false := by
    unfold blockOk noNl
    cases (t.data.toList.all fun x => !(x == 10)) <;> simp
  rw [e]
  refine all_to (L := fun k i => spec_l29One.l0 k i a b t) t.data.toList _ _ _ ?_ ?_ ?_
  · intro i hi hp P K
    refine EvP.step (fun k => spec_l29One.l0.eq_2 _ _ _ _ k) ?_
    have hn : ¬ ((t.data.toList[i].toNat : Int) = 10) := by
      intro h
      have : t.data.toList[i] = 10 := UInt8.toNat_inj.1 (by rw [show ((10 : UInt8).toNat) = 10 from rfl]; omega)
      rw [this] at hp
      exact absurd hp (by decide)
    simp only [size_len, if_pos (show (i : Int) < (t.data.toList.length : Int) by omega), if_pos (show (0 : Int) ≤ (i : Int) by omega), bytes_at_ t i hi, if_neg hn, w64 (show -9223372036854775808 ≤ (i : Int) + 1 by omega) (by omega)]
    simpa only [size_len] using K
  · intro i hi hp
    refine Ev.step (fun k => spec_l29One.l0.eq_2 _ _ _ _ k) ?_
    have hn : ((t.data.toList[i].toNat : Int) = 10) := by
      have : t.data.toList[i] = 10 := by simpa using hp
      rw [this]; rfl
    simp only [size_len, if_pos (show (i : Int) < (t.data.toList.length : Int) by omega), if_pos (show (0 : Int) ≤ (i : Int) by omega), bytes_at_ t i hi, if_pos hn]
    exact Ev.now _
  · intro _
    refine Ev.step (fun k => spec_l29One.l0.eq_2 _ _ _ _ k) ?_
    simp only [size_len, if_neg (show ¬ (t.data.toList.length : Int) < (t.data.toList.length : Int) by omega)]
    refine Ev.bind (specName_ev a ha) ?_
    cases nameOk a with
    | false => exact Ev.now _
    | true =>
      simp only [if_true, Bool.true_and]
      refine Ev.bind (specName_ev b hb) ?_
      cases nameOk b with
      | false => exact Ev.now _
      | true =>
        simp only [if_true, Bool.true_and]
        exact Ev.now _
end Go.Proofs.Ytnabckhhnknlaaa.PBlocks
end

section
namespace Go.Proofs.Ytnabckhhnknlaaa.PBlockL
open Go.RowKit Go.Proofs.YtnabckhhnknlaaaW.PrintWords Go.Proofs.Ytnabckhhnknlaaa.XD Go.Proofs.Ytnabckhhnknlaaa.EvK Go.Proofs.Ytnabckhhnknlaaa.PBasics Go.Proofs.Ytnabckhhnknlaaa.PBlocks
set_option linter.unusedVariables false
set_option linter.unusedSimpArgs false
def lessS (a b : ByteArray) : Bool := Op.bytesLess a.data.toList b.data.toList
def before (a b : S45) : Bool := lessS a.f0 b.f0 || (decide (a.f0.data.toList = b.f0.data.toList) && lessS a.f1 b.f1)
def cmpS (a b : ByteArray) : Int := if lessS a b = true then -1 else if lessS b a = true then 1 else 0
def cmpB (a b : S45) : Int := if cmpS a.f0 b.f0 = 0 then cmpS a.f1 b.f1 else cmpS a.f0 b.f0
theorem less_ge' (a b : ByteArray) : (lessS a b || decide (a.data.toList = b.data.toList)) = !(lessS b a) := by
  have h := less_ge a.data.toList b.data.toList
  unfold lessS
  rw [← h]
  congr 1
  rw [Bool.eq_iff_iff]
  simp
theorem less_ge2 (a b : ByteArray) : (lessS b a || decide (a.data.toList = b.data.toList)) = !(lessS a b) := by
  rw [← less_ge' b a]
  congr 1
  rw [Bool.eq_iff_iff, decide_eq_true_eq, decide_eq_true_eq]
  exact eq_comm
theorem cmpB_ge (a b : S45) : 0 ≤ cmpB a b ↔ before a b = false := by
  have h := less_ge' a.f0 b.f0
  unfold cmpB before cmpS
  cases h1 : lessS a.f0 b.f0 <;> cases h2 : lessS b.f0 a.f0 <;> cases h3 : lessS a.f1 b.f1 <;> cases h4 : lessS b.f1 a.f1 <;> simp_all
theorem cmpB_zero (a b : S45) : cmpB a b = 0 ↔ a.f0.data.toList = b.f0.data.toList ∧ a.f1.data.toList = b.f1.data.toList := by
  have h := less_ge' a.f0 b.f0
  have g := less_ge' a.f1 b.f1
  have h' := less_ge2 a.f0 b.f0
  have g' := less_ge2 a.f1 b.f1
  unfold cmpB cmpS
  cases h1 : lessS a.f0 b.f0 <;> cases h2 : lessS b.f0 a.f0 <;> cases h3 : lessS a.f1 b.f1 <;> cases h4 : lessS b.f1 a.f1 <;> simp_all
theorem compare_eq (a b : ByteArray) : cmp_Compare_string.f a b = some (cmpS a b) := by
  unfold cmp_Compare_string.f cmp_isNaN_string.f cmpS lessS
  simp only [bne_self_eq_false, Option.bind_some, Bool.false_eq_true, if_false, toList_eq]
  by_cases h1 : Op.bytesLess a.data.toList b.data.toList = true
  · simp only [if_pos h1]
  · simp only [if_neg h1]
    by_cases h2 : Op.bytesLess b.data.toList a.data.toList = true
    · simp only [if_pos h2]
    · simp only [if_neg h2]
theorem or_ev (a b : Int) : Ev (fun k => cmp_Or_int.f k [a, b]) (if a = 0 then b else a) := by
  unfold cmp_Or_int.f
  have w1 : wrap64 (0 + 1) = 1 := by rw [w64 (by omega) (by omega)]; rfl
  have w2 : wrap64 (1 + 1) = 2 := by rw [w64 (by omega) (by omega)]; rfl
  have r0 : rd [a, b] 0 = a := rfl
  have r1 : rd [a, b] 1 = b := rfl
  have hl : (([a, b] : List Int).length : Int) = 2 := rfl
  refine Ev.step (fun k => cmp_Or_int.l0.eq_2 _ _ _ _ k) ?_
  simp only [hl, w1, r0, if_pos (show (0 : Int) < 2 by omega), if_pos (show (0 : Int) ≤ 0 by omega)]
  by_cases ha : a = 0
  · simp only [if_pos ha]
    refine Ev.step (fun k => cmp_Or_int.l0.eq_2 _ _ _ _ k) ?_
    simp only [hl, w2, r1, if_pos (show (1 : Int) < 2 by omega), if_pos (show (0 : Int) ≤ 1 by omega)]
    by_cases hb : b = 0
    · simp only [if_pos hb]
      refine Ev.step (fun k => cmp_Or_int.l0.eq_2 _ _ _ _ k) ?_
      simp only [hl, if_neg (show ¬ (2 : Int) < 2 by omega), hb]
      exact Ev.now _
    · simp only [if_neg hb]; exact Ev.now _
  · simp only [if_neg ha]; exact Ev.now _
theorem compareB_ev (a b : S45) : Ev (fun k => impl_compareBlocks.f k a.f0 a.f1 a.f2 b.f0 b.f1 b.f2) (cmpB a b) := by
  unfold impl_compareBlocks.f
  simp only [compare_eq, Option.bind_some]
  exact Ev.bind (or_ev _ _) (Ev.now _)
theorem before_eq (a b : S45) : spec_l29Before.f a.f0 a.f1 a.f2 b.f0 b.f1 b.f2 = some (before a b) := by
  unfold spec_l29Before.f before
  simp only [toList_eq]
  show (if lessS a.f0 b.f0 = true then some true else if a.f0.data.toList = b.f0.data.toList then some (lessS a.f1 b.f1) else some false) = _
  cases lessS a.f0 b.f0
  · by_cases h : a.f0.data.toList = b.f0.data.toList <;> simp [h]
  · simp
def okAt (l : List S45) (i : Nat) : Bool := let b := l.getD i z45; blockOk b.f0 b.f1 b.f2 && (decide (i = 0) || before (l.getD (i - 1) z45) b)
def listOk (l : List S45) : Bool := (List.range l.length).all (okAt l) && decide ((l.length : Int) ≤ 32)
def Small (l : List S45) : Prop := l.length ≤ 1048576 ∧ ∀ x ∈ l, x.f0.size ≤ 1048576 ∧ x.f1.size ≤ 1048576 ∧ x.f2.size ≤ 1048576
theorem rd_nat (l : List S45) (i : Nat) : rd_T45 l (i : Int) = l.getD i z45 := rfl
theorem getD_mem {l : List S45} {i : Nat} (h : i < l.length) : l.getD i z45 ∈ l := by
  rw [List.getD_eq_getElem?_getD, List.getElem?_eq_getElem h]
  exact List.getElem_mem h
theorem specOk_ev (l : List S45) (hs : Small l) : Ev (fun k => spec_l29Ok.f k l) (listOk l) := by
  have hl := hs.1
  unfold spec_l29Ok.f listOk
  have e : ((List.range l.length).all (okAt l) && decide ((l.length : Int) ≤ 32)) = if (List.range l.length).all (okAt l) = true then decide ((l.length : Int) ≤ 32) else false := by
    cases (List.range l.length).all (okAt l) <;> simp
  rw [e]
  refine all_n (L := fun k i => spec_l29Ok.l0 k l i) l.length (okAt l) _ _ ?_ ?_ ?_
  · intro i hi hp P K
    obtain ⟨z0, z1, z2⟩ := hs.2 _ (getD_mem hi)
    refine EvP.step (fun k => spec_l29Ok.l0.eq_2 _ _ k) ?_
    simp only [if_pos (show (i : Int) < (l.length : Int) by omega), if_pos (show (0 : Int) ≤ (i : Int) by omega), rd_nat, w64 (show -9223372036854775808 ≤ (i : Int) + 1 by omega) (by omega), w64 (show -9223372036854775808 ≤ (i : Int) - 1 by omega) (by omega)]
    simp only [okAt, Bool.and_eq_true, Bool.or_eq_true, decide_eq_true_eq] at hp
    refine EvP.bind (oneBlock_ev _ _ _ z0 z1 z2) ?_
    simp only [hp.1, if_true]
    by_cases h0 : i = 0
    · simp only [if_neg (show ¬ (i : Int) > 0 by omega)]
      exact K
    · have hb : before (l.getD (i - 1) z45) (l.getD i z45) = true := by rcases hp.2 with h | h; exact absurd h h0; exact h
      have ei : ((i : Int) - 1) = ((i - 1 : Nat) : Int) := by omega
      simp only [if_pos (show (i : Int) > 0 by omega), ei, rd_nat, if_pos (show (0 : Int) ≤ ((i - 1 : Nat) : Int) by omega), if_pos (show ((i - 1 : Nat) : Int) < (l.length : Int) by omega), before_eq, hb, Option.bind_some, if_true]
      exact K
  · intro i hi hp
    obtain ⟨z0, z1, z2⟩ := hs.2 _ (getD_mem hi)
    refine Ev.step (fun k => spec_l29Ok.l0.eq_2 _ _ k) ?_
    simp only [if_pos (show (i : Int) < (l.length : Int) by omega), if_pos (show (0 : Int) ≤ (i : Int) by omega), rd_nat, w64 (show -9223372036854775808 ≤ (i : Int) + 1 by omega) (by omega), w64 (show -9223372036854775808 ≤ (i : Int) - 1 by omega) (by omega)]
    refine Ev.bind (oneBlock_ev _ _ _ z0 z1 z2) ?_
    simp only [okAt, Bool.and_eq_false_iff, Bool.or_eq_false_iff, decide_eq_false_iff_not] at hp
    cases hk : blockOk (l.getD i z45).f0 (l.getD i z45).f1 (l.getD i z45).f2 with
    | false => simp only [Bool.false_eq_true, if_false]; exact Ev.now _
    | true =>
      obtain ⟨h0, hb⟩ : i ≠ 0 ∧ before (l.getD (i - 1) z45) (l.getD i z45) = false := by rcases hp with h | h; rw [hk] at h; exact absurd h (by decide); exact h
      have ei : ((i : Int) - 1) = ((i - 1 : Nat) : Int) := by omega
      simp only [if_pos (show (i : Int) > 0 by omega), ei, rd_nat, if_pos (show (0 : Int) ≤ ((i - 1 : Nat) : Int) by omega), if_pos (show ((i - 1 : Nat) : Int) < (l.length : Int) by omega), before_eq, hb, Option.bind_some, if_true, Bool.false_eq_true, if_false]
      exact Ev.now _
  · refine Ev.step (fun k => spec_l29Ok.l0.eq_2 _ _ k) ?_
    simp only [if_neg (show ¬ (l.length : Int) < (l.length : Int) by omega)]
    exact Ev.now _
theorem implOk_ev (l : List S45) (hs : Small l) : Ev (fun k => impl_ValidBlocks.f k l) (listOk l) := by
  have hl := hs.1
  unfold impl_ValidBlocks.f listOk
  by_cases h32 : (l.length : Int) > 32
  · simp only [if_pos h32, decide_eq_false (show ¬ (l.length : Int) ≤ 32 by omega), Bool.and_false]
    exact Ev.now _
  simp only [if_neg h32, decide_eq_true (show (l.length : Int) ≤ 32 by omega), Bool.and_true]
  have e : (List.range l.length).all (okAt l) = if (List.range l.length).all (okAt l) = true then true else false := by
    cases (List.range l.length).all (okAt l) <;> simp
  rw [e]
  refine all_n (L := fun k i => impl_ValidBlocks.l0 k l l (l.length : Int) i) l.length (okAt l) _ _ ?_ ?_ ?_
  · intro i hi hp P K
    obtain ⟨z0, z1, z2⟩ := hs.2 _ (getD_mem hi)
    refine EvP.step (fun k => impl_ValidBlocks.l0.eq_2 _ _ _ _ k) ?_
    simp only [if_pos (show (i : Int) < (l.length : Int) by omega), if_pos (show (0 : Int) ≤ (i : Int) by omega), rd_nat, w64 (show -9223372036854775808 ≤ (i : Int) + 1 by omega) (by omega), w64 (show -9223372036854775808 ≤ (i : Int) - 1 by omega) (by omega)]
    simp only [okAt, Bool.and_eq_true, Bool.or_eq_true, decide_eq_true_eq] at hp
    refine EvP.bind (validBlock_ev _ _ _ z0 z1 z2) ?_
    simp only [hp.1, if_true]
    by_cases h0 : i = 0
    · simp only [if_neg (show ¬ (i : Int) > 0 by omega)]
      exact K
    · have hb : before (l.getD (i - 1) z45) (l.getD i z45) = true := by rcases hp.2 with h | h; exact absurd h h0; exact h
      have ei : ((i : Int) - 1) = ((i - 1 : Nat) : Int) := by omega
      simp only [if_pos (show (i : Int) > 0 by omega), ei, rd_nat, if_pos (show (0 : Int) ≤ ((i - 1 : Nat) : Int) by omega), if_pos (show ((i - 1 : Nat) : Int) < (l.length : Int) by omega)]
      refine EvP.bind (compareB_ev _ _) ?_
      have hc := cmpB_ge (l.getD (i - 1) z45) (l.getD i z45)
      rw [hb] at hc
      simp only [if_neg (show ¬ (cmpB (l.getD (i - 1) z45) (l.getD i z45) ≥ 0) from fun h => absurd (hc.1 h) (by decide))]
      exact K
  · intro i hi hp
    obtain ⟨z0, z1, z2⟩ := hs.2 _ (getD_mem hi)
    refine Ev.step (fun k => impl_ValidBlocks.l0.eq_2 _ _ _ _ k) ?_
    simp only [if_pos (show (i : Int) < (l.length : Int) by omega), if_pos (show (0 : Int) ≤ (i : Int) by omega), rd_nat, w64 (show -9223372036854775808 ≤ (i : Int) + 1 by omega) (by omega), w64 (show -9223372036854775808 ≤ (i : Int) - 1 by omega) (by omega)]
    refine Ev.bind (validBlock_ev _ _ _ z0 z1 z2) ?_
    simp only [okAt, Bool.and_eq_false_iff, Bool.or_eq_false_iff, decide_eq_false_iff_not] at hp
    cases hk : blockOk (l.getD i z45).f0 (l.getD i z45).f1 (l.getD i z45).f2 with
    | false => simp only [Bool.false_eq_true, if_false]; exact Ev.now _
    | true =>
      obtain ⟨h0, hb⟩ : i ≠ 0 ∧ before (l.getD (i - 1) z45) (l.getD i z45) = false := by rcases hp with h | h; rw [hk] at h; exact absurd h (by decide); exact h
      have ei : ((i : Int) - 1) = ((i - 1 : Nat) : Int) := by omega
      simp only [if_true, if_pos (show (i : Int) > 0 by omega), ei, rd_nat, if_pos (show (0 : Int) ≤ ((i - 1 : Nat) : Int) by omega), if_pos (show ((i - 1 : Nat) : Int) < (l.length : Int) by omega)]
      refine Ev.bind (compareB_ev _ _) ?_
      have hc := cmpB_ge (l.getD (i - 1) z45) (l.getD i z45)
      simp only [if_pos (show cmpB (l.getD (i - 1) z45) (l.getD i z45) ≥ 0 from hc.2 hb)]
      exact Ev.now _
  · refine Ev.step (fun k => impl_ValidBlocks.l0.eq_2 _ _ _ _ k) ?_
    simp only [if_neg (show ¬ (l.length : Int) < (l.length : Int) by omega)]
    exact Ev.now _
end Go.Proofs.Ytnabckhhnknlaaa.PBlockL
end

section
namespace Go.Proofs.Ytnabckhhnknlaaa.PSearch
open Go.RowKit Go.Proofs.YtnabckhhnknlaaaW.PrintWords Go.Proofs.Ytnabckhhnknlaaa.XD Go.Proofs.Ytnabckhhnknlaaa.EvK Go.Proofs.Ytnabckhhnknlaaa.PBasics Go.Proofs.Ytnabckhhnknlaaa.PBlocks Go.Proofs.Ytnabckhhnknlaaa.PBlockL
set_option linter.unusedVariables false
set_option linter.unusedSimpArgs false
theorem less_trans : ∀ (x y z : List UInt8), Op.bytesLess x y = true → Op.bytesLess y z = true → Op.bytesLess x z = true
  | _, y, [], _, h => by cases y <;> simp [Op.bytesLess] at h
  | _, [], _ :: _, h, _ => by simp [Op.bytesLess] at h
  | [], b :: y, c :: z, _, _ => rfl
  | a :: x, b :: y, c :: z, h1, h2 => by
    simp only [Op.bytesLess, Bool.or_eq_true, Bool.and_eq_true, decide_eq_true_eq, beq_iff_eq] at h1 h2 ⊢
    rcases h1 with h1 | ⟨rfl, h1⟩ <;> rcases h2 with h2 | ⟨rfl, h2⟩
    · exact Or.inl (UInt8.lt_trans h1 h2)
    · exact Or.inl h1
    · exact Or.inl h2
    · exact Or.inr ⟨rfl, less_trans x y z h1 h2⟩
theorem before_trans {a b c : S45} (h1 : before a b = true) (h2 : before b c = true) : before a c = true := by
  simp only [before, lessS, Bool.or_eq_true, Bool.and_eq_true, decide_eq_true_eq] at h1 h2 ⊢
  rcases h1 with h1 | ⟨e1, h1⟩ <;> rcases h2 with h2 | ⟨e2, h2⟩
  · exact Or.inl (less_trans _ _ _ h1 h2)
  · rw [← e2]; exact Or.inl h1
  · rw [e1]; exact Or.inl h2
  · exact Or.inr ⟨e1.trans e2, less_trans _ _ _ h1 h2⟩
theorem before_congr {a b c : S45} (e0 : b.f0.data.toList = c.f0.data.toList) (e1 : b.f1.data.toList = c.f1.data.toList) : before a b = before a c := by
  simp only [before, lessS, e0, e1]
def Sorted (l : List S45) : Prop := ∀ q p, q < p → p < l.length → before (l.getD q z45) (l.getD p z45) = true
theorem sorted_of {l : List S45} (h : listOk l = true) : Sorted l := by
  unfold listOk at h
  rw [Bool.and_eq_true, List.all_eq_true] at h
  have adj : ∀ p, p + 1 < l.length → before (l.getD p z45) (l.getD (p + 1) z45) = true := by
    intro p hp
    have := h.1 (p + 1) (List.mem_range.2 hp)
    simp only [okAt, Bool.and_eq_true, Bool.or_eq_true, decide_eq_true_eq] at this
    rcases this.2 with h | h
    · omega
    · simpa using h
  intro q p hqp hp
  induction p with
  | zero => omega
  | succ p ih =>
    by_cases hq : q = p
    · subst hq; exact adj q hp
    · exact before_trans (ih (by omega) (by omega)) (adj p hp)
theorem mid_eq {n : Int} (h0 : 0 ≤ n) (h1 : n ≤ 4611686018427387904) : wrap64 ((IntKind.u64.wrap (wrap64 n)) / 2) = n / 2 := by
  rw [w64 (show -9223372036854775808 ≤ n by omega) (by omega)]
  have e : IntKind.u64.wrap n = n := by
    simp only [IntKind.wrap, IntKind.bits, IntKind.signed]
    first | omega | (simp; omega)
  rw [e, w64 (by omega) (by omega)]
def At (l : List S45) (t : S45) (i : Nat) : Prop := i ≤ l.length ∧ (∀ p, p < i → before (l.getD p z45) t = true) ∧ (∀ p, i ≤ p → p < l.length → before (l.getD p z45) t = false)
def hit (l : List S45) (t : S45) (i : Nat) : Bool := decide (i < l.length) && (cmpB (l.getD i z45) t == 0)
theorem search_loop (l : List S45) (t : S45) (hl : l.length ≤ 1048576) (hs : Sorted l) : ∀ (d i j : Nat), j - i ≤ d → i ≤ j → j ≤ l.length → (∀ p, p < i → before (l.getD p z45) t = true) → (∀ p, j ≤ p → p < l.length → before (l.getD p z45) t = false) →
    EvP (fun k => slices_BinarySearchFunc_BlockS.l0 k l (l.length : Int) (i : Int) (j : Int) t.f0 t.f1 t.f2) (fun x => ∃ i, At l t i ∧ x = ((i : Int), hit l t i)) := by
  intro d
  induction d with
  | zero =>
    intro i j hd hij hj h1 h2
    obtain rfl : i = j := by omega
    refine EvP.step (fun k => slices_BinarySearchFunc_BlockS.l0.eq_2 _ _ _ _ _ _ _ k) ?_
    simp only [if_neg (show ¬ (i : Int) < (i : Int) by omega)]
    by_cases hn : i < l.length
    · simp only [if_pos (show (i : Int) < (l.length : Int) by omega), if_pos (show (0 : Int) ≤ (i : Int) by omega), rd_nat]
      refine EvP.bind (compareB_ev _ _) ?_
      exact EvP.now ⟨i, ⟨hj, h1, h2⟩, by rw [hit, decide_eq_true hn, Bool.true_and]⟩
    · simp only [if_neg (show ¬ (i : Int) < (l.length : Int) by omega)]
      exact EvP.now ⟨i, ⟨hj, h1, h2⟩, by rw [hit, decide_eq_false hn, Bool.false_and]⟩
  | succ d ih =>
    intro i j hd hij hj h1 h2
    by_cases he : i = j
    · exact ih i j (by omega) hij hj h1 h2
    have em : wrap64 ((IntKind.u64.wrap (wrap64 ((i : Int) + (j : Int)))) / 2) = (((i + j) / 2 : Nat) : Int) := by
      rw [mid_eq (by omega) (by omega)]; omega
    refine EvP.step (fun k => slices_BinarySearchFunc_BlockS.l0.eq_2 _ _ _ _ _ _ _ k) ?_
    simp only [if_pos (show (i : Int) < (j : Int) by omega), em, if_pos (show (0 : Int) ≤ (((i + j) / 2 : Nat) : Int) by omega), if_pos (show (((i + j) / 2 : Nat) : Int) < (l.length : Int) by omega), rd_nat, w64 (show -9223372036854775808 ≤ (((i + j) / 2 : Nat) : Int) + 1 by omega) (by omega)]
    refine EvP.bind (compareB_ev _ _) ?_
    have hc := cmpB_ge (l.getD ((i + j) / 2) z45) t
    cases hb : before (l.getD ((i + j) / 2) z45) t with
    | true =>
      simp only [if_pos (show cmpB (l.getD ((i + j) / 2) z45) t < 0 by rw [hb] at hc; exact Int.not_le.1 (fun h => absurd (hc.1 h) (by decide)))]
      have := ih ((i + j) / 2 + 1) j (by omega) (by omega) hj (fun p hp => ?_) h2
      · simpa using this
      · by_cases hq : p = (i + j) / 2
        · rw [hq]; exact hb
        · exact before_trans (hs p ((i + j) / 2) (by omega) (by omega)) hb
    | false =>
      simp only [if_neg (show ¬ cmpB (l.getD ((i + j) / 2) z45) t < 0 from Int.not_lt.2 (hc.2 hb))]
      refine ih i ((i + j) / 2) (by omega) (by omega) (by omega) h1 (fun p hp hp2 => ?_)
      by_cases hq : p = (i + j) / 2
      · rw [hq]; exact hb
      · cases hpb : before (l.getD p z45) t with
        | false => rfl
        | true =>
          have := before_trans (hs ((i + j) / 2) p (by omega) hp2) hpb
          rw [hb] at this
          exact absurd this (by decide)
theorem search_ev (l : List S45) (t : S45) (hl : l.length ≤ 1048576) (hs : Sorted l) : ∃ i, At l t i ∧ Ev (fun k => slices_BinarySearchFunc_BlockS.f k l t.f0 t.f1 t.f2) ((i : Int), hit l t i) := by
  obtain ⟨r, hr, i, ha, rfl⟩ := search_loop l t hl hs l.length 0 l.length (by omega) (by omega) (by omega) (fun p hp => by omega) (fun p hp hp2 => by omega)
  exact ⟨i, ha, hr⟩
theorem find_ev (l : List S45) (t : S45) (hl : l.length ≤ 1048576) (hs : Sorted l) (i : Nat) (ha : At l t i) : Ev (fun k => spec_l29Find.f k l t.f0 t.f1) (if hit l t i = true then (i : Int) else -1) := by
  obtain ⟨hi, h1, h2⟩ := ha
  unfold spec_l29Find.f
  have ne_lt : ∀ q, q < i → ¬ ((l.getD q z45).f0.data.toList = t.f0.data.toList ∧ (l.getD q z45).f1.data.toList = t.f1.data.toList) := by
    intro q hq hh
    have hz := (cmpB_zero (l.getD q z45) t).2 hh
    have := (cmpB_ge (l.getD q z45) t).1 (by omega)
    rw [h1 q hq] at this
    exact absurd this (by decide)
  have step : ∀ (q : Nat), q < l.length → ¬ ((l.getD q z45).f0.data.toList = t.f0.data.toList ∧ (l.getD q z45).f1.data.toList = t.f1.data.toList) → ∀ P, EvP (fun k => spec_l29Find.l0 k l t.f0 t.f1 ((q : Int) + 1)) P → EvP (fun k => spec_l29Find.l0 k l t.f0 t.f1 (q : Int)) P := by
    intro q hq hne P K
    refine EvP.step (fun k => spec_l29Find.l0.eq_2 _ _ _ _ k) ?_
    simp only [if_pos (show (q : Int) < (l.length : Int) by omega), if_pos (show (0 : Int) ≤ (q : Int) by omega), rd_nat, toList_eq, w64 (show -9223372036854775808 ≤ (q : Int) + 1 by omega) (by omega)]
    by_cases h0 : (l.getD q z45).f0.data.toList = t.f0.data.toList
    · simp only [if_pos h0, if_neg (show ¬ (l.getD q z45).f1.data.toList = t.f1.data.toList from fun h => hne ⟨h0, h⟩)]
      exact K
    · simp only [if_neg h0]
      exact K
  cases hh : hit l t i with
  | true =>
    simp only [hit, Bool.and_eq_true, decide_eq_true_eq, beq_iff_eq] at hh
    have hz := (cmpB_zero (l.getD i z45) t).1 hh.2
    rw [if_pos rfl]
    apply EvP.eq
    refine for_evp (L := fun k (_ : Unit) q => spec_l29Find.l0 k l t.f0 t.f1 q) i (fun _ _ => True) ?_ ?_ () trivial
    · intro q _ hq _ K
      exact step q (by omega) (ne_lt q hq) _ (K () trivial)
    · intro _ _
      refine EvP.step (fun k => spec_l29Find.l0.eq_2 _ _ _ _ k) ?_
      simp only [if_pos (show (i : Int) < (l.length : Int) by omega), if_pos (show (0 : Int) ≤ (i : Int) by omega), rd_nat, toList_eq, if_pos hz.1, if_pos hz.2]
      exact EvP.now rfl
  | false =>
    rw [if_neg (by decide)]
    apply EvP.eq
    refine for_evp (L := fun k (_ : Unit) q => spec_l29Find.l0 k l t.f0 t.f1 q) l.length (fun _ _ => True) ?_ ?_ () trivial
    · intro q _ hq _ K
      refine step q hq ?_ _ (K () trivial)
      by_cases hqi : q < i
      · exact ne_lt q hqi
      · intro he
        have hz := (cmpB_zero (l.getD q z45) t).2 he
        by_cases hq2 : q = i
        · subst hq2
          simp only [hit, decide_eq_true hq, Bool.true_and, beq_eq_false_iff_ne] at hh
          exact hh hz
        · have := hs i q (by omega) hq
          rw [before_congr he.1 he.2, h2 i (by omega) (by omega)] at this
          exact absurd this (by decide)
    · intro _ _
      refine EvP.step (fun k => spec_l29Find.l0.eq_2 _ _ _ _ k) ?_
      simp only [if_neg (show ¬ (l.length : Int) < (l.length : Int) by omega)]
      exact EvP.now rfl
end Go.Proofs.Ytnabckhhnknlaaa.PSearch
end

section
namespace Go.Proofs.Ytnabckhhnknlaaa.SD
open Go.RowKit Go.Proofs.YtnabckhhnknlaaaW.PrintWords Go.Proofs.Ytnabckhhnknlaaa.XD Go.Proofs.Ytnabckhhnknlaaa.EvK
set_option linter.unusedVariables false
set_option linter.unusedSimpArgs false
theorem szBlock_val (x : S42) (left : Int) (h0 : 0 ≤ left) (h1 : left ≤ 1048576) (hq : Q42 x) : ∃ t, laws_szBlock.f x.f0 x.f1 x.f2 left = some t ∧ t ≤ left ∧ (0 ≤ t → (x.f0.size ≤ 1048576) ∧ (x.f1.size ≤ 1048576) ∧ (x.f2.size ≤ 1048576)) := by
  unfold Q42 maxLen at hq
  unfold laws_szBlock.f
  repeat' split
  all_goals refine ⟨_, rfl, ?_, ?_⟩
  all_goals (simp only [wrap64] at *; omega)
end Go.Proofs.Ytnabckhhnknlaaa.SD
end

section
namespace Go.Proofs.Ytnabckhhnknlaaa.SD
open Go.RowKit Go.Proofs.YtnabckhhnknlaaaW.PrintWords Go.Proofs.Ytnabckhhnknlaaa.XD Go.Proofs.Ytnabckhhnknlaaa.EvK
set_option linter.unusedVariables false
set_option linter.unusedSimpArgs false
theorem szBlockS_ev (l : List (S42)) (left : Int) (h0 : 0 ≤ left) (h1 : left ≤ 1048576) (hq : (l.length ≤ maxLen ∧ ∀ y1 ∈ l, Q42 y1)) : EvP (fun k => laws_szBlockS.f k l left) (fun t => t ≤ left ∧ (0 ≤ t → l.length ≤ 1048576 ∧ ∀ x ∈ l, (x.f0.size ≤ 1048576) ∧ (x.f1.size ≤ 1048576) ∧ (x.f2.size ≤ 1048576))) := by
  obtain ⟨hl, hq⟩ := hq
  unfold maxLen at hl
  unfold laws_szBlockS.f
  rw [w64 (by omega) (by omega)]
  by_cases hc : left - (l.length : Int) < 0
  · simp only [if_pos hc]
    exact EvP.now ⟨by omega, by omega⟩
  simp only [if_neg hc]
  refine for_evp (L := fun k (s : Int) i => laws_szBlockS.l0 k l s i) l.length (fun i s => 0 ≤ s ∧ s ≤ left - (l.length : Int) ∧ ∀ x ∈ l.take i, (x.f0.size ≤ 1048576) ∧ (x.f1.size ≤ 1048576) ∧ (x.f2.size ≤ 1048576)) ?_ ?_ _ ⟨by omega, by omega, by simp⟩
  · rintro i s hi ⟨hs0, hs1, hs⟩ K
    have e : rd_T42 l (i : Int) = l[i] := getD_at l z42 i hi
    refine EvP.step (fun k => laws_szBlockS.l0.eq_2 _ _ _ k) ?_
    obtain ⟨t, ht, ht1, ht2⟩ := szBlock_val l[i] s hs0 (by omega) (hq _ (List.getElem_mem hi))
    simp only [if_pos (show (i : Int) < (l.length : Int) by omega), if_pos (show (0 : Int) ≤ (i : Int) by omega), e, ht, Option.bind_some, w64 (show -9223372036854775808 ≤ (i : Int) + 1 by omega) (by omega)]
    by_cases hn : t < 0
    · simp only [if_pos hn]
      exact EvP.now ⟨by omega, by omega⟩
    · simp only [if_neg hn]
      exact K _ ⟨by omega, by omega, take_all hi hs (ht2 (by omega))⟩
  · rintro s ⟨hs0, hs1, hs⟩
    refine EvP.step (fun k => laws_szBlockS.l0.eq_2 _ _ _ k) ?_
    simp only [if_neg (show ¬ (l.length : Int) < (l.length : Int) by omega)]
    exact EvP.now ⟨by omega, fun _ => ⟨by omega, by simpa using hs⟩⟩
end Go.Proofs.Ytnabckhhnknlaaa.SD
end

section
namespace Go.Proofs.Ytnabckhhnknlaaa.SD
open Go.RowKit Go.Proofs.YtnabckhhnknlaaaW.PrintWords Go.Proofs.Ytnabckhhnknlaaa.XD Go.Proofs.Ytnabckhhnknlaaa.EvK
set_option linter.unusedVariables false
set_option linter.unusedSimpArgs false
def toBlockS_el (x : S42) : S45 := (⟨x.f0, x.f1, x.f2⟩ : S45)
theorem toBlockS_ev (l : List (S42)) (hl : l.length ≤ 1048576) : Ev (fun k => laws_toBlockS.f k l) (l.map toBlockS_el) := by
  apply EvP.eq
  unfold laws_toBlockS.f
  simp only [if_pos (show (0 : Int) ≤ (l.length : Int) by omega), Int.toNat_natCast, if_pos (show l.length ≤ 5864062014805 by omega)]
  refine for_evp (L := fun k (s : List (S45)) i => laws_toBlockS.l0 k l s i) l.length (fun i s => s = (l.take i).map toBlockS_el ++ List.replicate (l.length - i) z45) ?_ ?_ (List.replicate l.length z45) (by simp)
  · rintro i s hi rfl K
    have e : rd_T42 l (i : Int) = l[i] := getD_at l z42 i hi
    have hlen := done_len toBlockS_el l z45 i (by omega)
    refine EvP.step (fun k => laws_toBlockS.l0.eq_2 _ _ _ k) ?_
    simp only [if_pos (show (i : Int) < (l.length : Int) by omega), if_pos (show (0 : Int) ≤ (i : Int) by omega), e, laws_toBlock.f, Option.bind_some, hlen, w64 (show -9223372036854775808 ≤ (i : Int) + 1 by omega) (by omega), Int.toNat_natCast]
    refine K _ ?_
    show List.set _ i (toBlockS_el l[i]) = _
    exact map_done toBlockS_el l _ i hi
  · rintro s rfl
    refine EvP.step (fun k => laws_toBlockS.l0.eq_2 _ _ _ k) ?_
    simp only [if_neg (show ¬ (l.length : Int) < (l.length : Int) by omega)]
    exact EvP.now (by simp)
end Go.Proofs.Ytnabckhhnknlaaa.SD
end

section
namespace Go.Proofs.Ytnabckhhnknlaaa.SD
open Go.RowKit Go.Proofs.YtnabckhhnknlaaaW.PrintWords Go.Proofs.Ytnabckhhnknlaaa.XD Go.Proofs.Ytnabckhhnknlaaa.EvK
set_option linter.unusedVariables false
set_option linter.unusedSimpArgs false
theorem eqBlockS_ev (l : List (S45)) (hl : l.length ≤ 1048576) : Ev (fun k => laws_eqBlockS.f k l l) true := by
  apply EvP.eq
  unfold laws_eqBlockS.f
  simp only [if_true]
  refine for_evp (L := fun k (s : Unit) i => laws_eqBlockS.l0 k l l i) l.length (fun i s => True) ?_ ?_ () trivial
  · rintro i s hi - K
    refine EvP.step (fun k => laws_eqBlockS.l0.eq_2 _ _ _ k) ?_
    simp only [if_pos (show (i : Int) < (l.length : Int) by omega), if_pos (show (0 : Int) ≤ (i : Int) by omega), laws_eqBlock.f, Option.bind_some, if_true, w64 (show -9223372036854775808 ≤ (i : Int) + 1 by omega) (by omega)]
    exact K () trivial
  · rintro s -
    refine EvP.step (fun k => laws_eqBlockS.l0.eq_2 _ _ _ k) ?_
    simp only [if_neg (show ¬ (l.length : Int) < (l.length : Int) by omega)]
    exact EvP.now rfl
end Go.Proofs.Ytnabckhhnknlaaa.SD
end

section
namespace Go.Proofs.Ytnabckhhnknlaaa.PureFnExactBlockNamed
open Go.RowKit Go.Proofs.YtnabckhhnknlaaaW.PrintWords Go.Proofs.Ytnabckhhnknlaaa.XD Go.Proofs.Ytnabckhhnknlaaa.EvK Go.Proofs.Ytnabckhhnknlaaa.PBlockL Go.Proofs.Ytnabckhhnknlaaa.PSearch Go.Proofs.Ytnabckhhnknlaaa.SD
set_option linter.unusedVariables false
set_option linter.unusedSimpArgs false
theorem both_ev (l : List S45) (a b : ByteArray) (hs : Small l) : ∃ r : ByteArray × Int, Ev (fun k => spec_BlockNamed.f k l a b) r ∧ Ev (fun k => impl_BlockNamed.f k l a b) r := by
  cases hok : listOk l with
  | false =>
    refine ⟨(⟨#[]⟩, 1), ?_, ?_⟩
    · unfold spec_BlockNamed.f
      refine Ev.bind (specOk_ev l hs) ?_
      simp only [hok, Bool.false_eq_true, if_false]
      exact Ev.now _
    · unfold impl_BlockNamed.f
      refine Ev.bind (implOk_ev l hs) ?_
      simp only [hok, Bool.false_eq_true, if_false]
      exact Ev.now _
  | true =>
    obtain ⟨i, ha, h1⟩ := search_ev l ⟨a, b, ⟨#[]⟩⟩ hs.1 (sorted_of hok)
    have h2 := find_ev l ⟨a, b, ⟨#[]⟩⟩ hs.1 (sorted_of hok) i ha
    cases hh : hit l ⟨a, b, ⟨#[]⟩⟩ i with
    | false =>
      rw [hh] at h1 h2
      refine ⟨(⟨#[]⟩, 3), ?_, ?_⟩
      · unfold spec_BlockNamed.f
        refine Ev.bind (specOk_ev l hs) ?_
        simp only [hok, if_true]
        refine Ev.bind h2 ?_
        simp only [Bool.false_eq_true, if_false, if_pos (show (-1 : Int) < 0 by omega)]
        exact Ev.now _
      · unfold impl_BlockNamed.f
        refine Ev.bind (implOk_ev l hs) ?_
        simp only [hok, if_true]
        refine Ev.bind h1 ?_
        simp only [Bool.false_eq_true, if_false]
        exact Ev.now _
    | true =>
      have hi : i < l.length := by
        simp only [hit, Bool.and_eq_true, decide_eq_true_eq] at hh
        exact hh.1
      rw [hh] at h1 h2
      refine ⟨((l.getD i z45).f2, 0), ?_, ?_⟩
      · unfold spec_BlockNamed.f
        refine Ev.bind (specOk_ev l hs) ?_
        simp only [hok, if_true]
        refine Ev.bind h2 ?_
        simp only [if_true, if_neg (show ¬ (i : Int) < 0 by omega), if_pos (show (0 : Int) ≤ (i : Int) by omega), if_pos (show (i : Int) < (l.length : Int) by omega), rd_nat]
        exact Ev.now _
      · unfold impl_BlockNamed.f
        refine Ev.bind (implOk_ev l hs) ?_
        simp only [hok, if_true]
        refine Ev.bind h1 ?_
        simp only [if_true, if_pos (show (0 : Int) ≤ (i : Int) by omega), if_pos (show (i : Int) < (l.length : Int) by omega), rd_nat]
        exact Ev.now _
theorem small_to (l : List S42) (h1 : l.length ≤ 1048576) (h2 : ∀ x ∈ l, x.f0.size ≤ 1048576 ∧ x.f1.size ≤ 1048576 ∧ x.f2.size ≤ 1048576) : Small (l.map toBlockS_el) := by
  refine ⟨by simpa using h1, fun x hx => ?_⟩
  obtain ⟨y, hy, rfl⟩ := List.mem_map.1 hx
  exact h2 y hy
theorem pure : laws_FnExactBlockNamed.Pure := by
  intro l a b hq ha hb
  apply EvP.rounds
  unfold laws_FnExactBlockNamed.f
  by_cases ha1 : (a.size : Int) > 1048576
  · simp only [if_pos ha1]
    exact EvP.now rfl
  by_cases hb1 : (b.size : Int) > 1048576
  · simp only [if_neg ha1, if_pos hb1]
    exact EvP.now rfl
  simp only [if_neg ha1, if_neg hb1]
  refine EvP.bindP (szBlockS_ev l 1048576 (by omega) (by omega) hq) (fun t ⟨_, hs⟩ => ?_)
  by_cases hn : t < 0
  · simp only [if_pos hn]
    exact EvP.now rfl
  simp only [if_neg hn]
  obtain ⟨h1, h2⟩ := hs (by omega)
  have hto := toBlockS_ev l h1
  have hsm := small_to l h1 h2
  generalize l.map toBlockS_el = L at hto hsm
  obtain ⟨r, e1, e2⟩ := both_ev L a b hsm
  refine EvP.bind hto (EvP.bind e1 (EvP.bind hto (EvP.bind e2 ?_)))
  simp only [if_true, bne_self_eq_false]
  refine EvP.step (fun k => laws_FnExactBlockNamed.j0.eq_2 _ _ _ k) ?_
  simp only [Bool.false_eq_true, if_false]
  refine EvP.bind hto (EvP.bind (eqBlockS_ev L hsm.1) ?_)
  simp only [if_true]
  exact EvP.now rfl
end Go.Proofs.Ytnabckhhnknlaaa.PureFnExactBlockNamed
end

section
namespace Go.Proofs.Ytnabckhhnknlaaa.RowFnExactBlockNamed
open Go.ChangeShapes Go.WideShapes Go.ChangeAt Go.RowKit Go.Proofs.YtnabckhhnknlaaaW.PrintWords Go.Proofs.Ytnabckhhnknlaaa.XD Go.Proofs.Ytnabckhhnknlaaa.Open
open Go.ChangeMaps (open_string shut_string)
set_option linter.unusedVariables false
theorem own : ownKnob Try.prog.godebug = none := by kernel_rfl
theorem laidOut : laidOutB Try.prog = true := by kernel_rfl
set_option maxRecDepth 100000 in
theorem lifted (os : Os) (started : os.Started) (H : Type) (enc : TypeId × Value → H) :
    ReturnsInHanded {} Try.checked os 4 .any (Rows.fnExactBlockNamedSpec.pre6 enc Try.prog Try.f4 Rows.fnExactBlockNamedRow.domain false) (Rows.fnExactBlockNamedSpec.post enc Try.prog Try.f4 false true false false) := by
  refine returnsInHanded_of_change_shaped (C := Try.checked) own started (by kernel_rfl) Try.func4
    (ChangeSpec.witness6 (enc := enc) (C := Try.checked) false ⟨#[], #[(.slice none 0 0), (.string ⟨#[]⟩), (.string ⟨#[]⟩)], []⟩ 8 (by kernel_rfl) (by kernel_rfl) (by kernel_rfl) (by kernel_rfl)) ?_
  intro W base args ds gs before hval0 hW hcnd hsz0 hsh _
  have hsz : (DataW.weightsEach Try.prog (Try.f4.params.toList ++ Rows.fnExactBlockNamedSpec.plain.varTypes Try.prog) (ds ++ gs)).all (· ≤ reachBytes) = true := hsz0
  have hval : ∀ (j : Nat) t v, Try.f4.params[j]? = some t → args[j]? = some v → Value.okWide Try.prog W .any base t v := hval0
  have hW' := hW
  obtain ⟨p, q, hA0, hV, rfl, hfz, hnd⟩ := hW
  have hA : DataW.TrodAll enc Try.prog W 0 (fun _ => true) true Try.f4.params.toList args.toList ds p := hA0
  rw [Try.params4] at hA hval hsz
  obtain ⟨v0, vs0, d0, ds0, p0, q0, hargs, rfl, rfl, h0, r0⟩ := trodAll_cons hA
  obtain ⟨v1, vs1, d1, ds1, p1, q1, rfl, rfl, rfl, h1, r1⟩ := trodAll_cons r0
  obtain ⟨v2, vs2, d2, ds2, p2, q2, rfl, rfl, rfl, h2, r2⟩ := trodAll_cons r1
  obtain ⟨rfl, rfl, rfl⟩ := trodAll_nil r2
  obtain rfl : args = #[v0, v1, v2] := by cases args; simp_all
  obtain ⟨rfl, rfl⟩ := trodVars_none hV
  have kk0 := h0
  have lt0 : ∀ x ∈ p0, x.block < W.heap.size := by obtain ⟨m, hm⟩ := kk0; exact DataW.trod_lt m _ _ _ hm
  obtain ⟨A0, c0, a0, rfl, hc0, hr0, hq0⟩ := open_sl Try.underlying22 (by kernel_rfl) opens42 (hval 0 22 v0 rfl rfl) h0
  obtain ⟨a1, rfl, rfl, rfl, y1⟩ := open_string Try.underlying9 (hval 1 9 v1 rfl rfl) h1
  have w1 : a1.size ≤ 140737488351232 := by
    have z := sized_string hsz (j := 1) (t := 9) rfl rfl
    rw [Array.length_toList] at z
    exact z
  obtain ⟨a2, rfl, rfl, rfl, y2⟩ := open_string Try.underlying9 (hval 2 9 v2 rfl rfl) h2
  have w2 : a2.size ≤ 140737488351232 := by
    have z := sized_string hsz (j := 2) (t := 9) rfl rfl
    rw [Array.length_toList] at z
    exact z
  obtain ⟨k, hp⟩ := PureFnExactBlockNamed.pure a0 a1 a2 hq0 w1 w2
  clear hA0 hval0 hsz0 hsz
  refine (laws_FnExactBlockNamed.calls k A0 c0 a0 a1 a2 true W hr0 hc0 hsh hp).mono fun e W' ⟨he, bel0⟩ => ?_
  have bel : Below W.heap.size W W' := bel0
  subst he
  exact ⟨_, rfl, _, _, _, [], _, [], hW', trodAll_mk1 (shut_bool Try.underlying4 _), (trodAll_cons_mk (Below.trod laidOut (by kernel_rfl) (of_decide_eq_true (by kernel_rfl)) kk0 bel lt0) (trodAll_cons_mk (shut_string Try.underlying9 y1) (trodAll_cons_mk (shut_string Try.underlying9 y2) trodAll_mk0))), rfl, bel.frame _, fun h => by cases h⟩
theorem over : Rows.fnExactBlockNamedRow.holds Try.pinned (OpenSpec.ofChange Rows.fnExactBlockNamedSpec) :=
  OpenClaim.holds_of_wide 4 Try.f4 rfl rfl rfl rfl rfl rfl rfl ⟨rfl, rfl, rfl, rfl, rfl⟩ rfl rfl rfl rfl rfl (by kernel_rfl) Try.func4 (by kernel_rfl)
    (of_decide_eq_true (by kernel_rfl)) (by unfold Func.isWrapper; first | (rw [if_pos (by decide +kernel)]; kernel_rfl) | (rw [if_neg (by decide +kernel)]; exact ⟨rfl, rfl⟩))
    (fun os started H enc _ => lifted os started H enc)
end Go.Proofs.Ytnabckhhnknlaaa.RowFnExactBlockNamed
namespace Go.Proofs.Ytnabckhhnknlaaa
theorem fnExactBlockNamed_holds : Rows.FnExactBlockNamedSaid := RowFnExactBlockNamed.over
end Go.Proofs.Ytnabckhhnknlaaa
end
