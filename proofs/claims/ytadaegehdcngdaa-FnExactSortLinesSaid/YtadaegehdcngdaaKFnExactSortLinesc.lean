/- The law FnExactSortLines: part 2 of its texts, joined (wip/pack.py). -/
import Derived.Test.YtadaegehdcngdaaKFnExactSortLinesa
import Derived.Test.YtadaegehdcngdaaKFnExactSortLinesb
import Derived.Deep.Slices
import Derived.SizedLaws
import Derived.ChangeArms
import Derived.WideShapes
import Derived.Test.YtadaegehdcngdaaRows
import Derived.WalkKit
import Derived.ProofKit
import Derived.OpenShut
import Derived.ShutString
import Derived.ChangeOld
import Derived.Below

section
namespace Go.Proofs.Ytadaegehdcngdaa.XY
open Go.RowKit Go.Proofs.YtadaegehdcngdaaW.PrintWords Go.Proofs.YtadaegehdcngdaaW.PrintLast Go.Proofs.YtadaegehdcngdaaW.PrintMore
attribute [local go_sem] run_eql_slice_nil binOp_string_gtr' binOp_string_leq' binOp_string_geq' max2_int min2_int max_two min_two max_three min_three max_four min_four   -- for this text's walks alone
set_option linter.unusedVariables false
set_option linter.unusedSimpArgs false
mutual
def laws_FnExactSortLines.j0 : Nat → List ByteArray → List ByteArray → Int → List ByteArray → List ByteArray → Int → Bool → Option (Bool)
 | 0, _, _, _, _, _, _, _ => none
 | k + 1, x0, x4, x5, x6, x7, x8, x40 => if x40 = true then (some false) else ((laws_toStringS.f k x0).bind fun t153 => ((laws_eqStringS.f k x6 t153).bind fun t156 => (if t156 = true then ((laws_markStringS.f k x6 1).bind fun bt157 => (if bt157.1 < 0 then (laws_FnExactSortLines.j1 k x0 x4 x5 x7 true) else ((laws_eqStringS.f k x7 x4).bind fun t159 => (if t159 = true then (laws_FnExactSortLines.j1 k x0 x4 x5 x7 (x8 != x5)) else (laws_FnExactSortLines.j1 k x0 x4 x5 x7 true))))) else (some false))))
def laws_FnExactSortLines.j1 : Nat → List ByteArray → List ByteArray → Int → List ByteArray → Bool → Option (Bool)
 | 0, _, _, _, _, _ => none
 | k + 1, x0, x4, x5, x7, x61 => if x61 = true then (some false) else ((laws_markStringS.f k x7 1).bind fun bt160 => ((laws_heldStringS.f k bt160.2 1).bind fun t162 => (if t162 < 0 then (some false) else (if t162 = bt160.1 then ((laws_toStringS.f k x0).bind fun t163 => ((impl_SortLines.f k t163).bind fun bt166 => ((laws_eqStringS.f k bt166.1 x4).bind fun t170 => (if t170 = true then (laws_FnExactSortLines.j2 k bt160.2 bt160.1 (bt166.2 != x5)) else (laws_FnExactSortLines.j2 k bt160.2 bt160.1 true))))) else (some false)))))
def laws_FnExactSortLines.j2 : Nat → List ByteArray → Int → Bool → Option (Bool)
 | 0, _, _, _ => none
 | k + 1, x7, x10, x87 => if x87 = true then (some false) else ((laws_heldStringS.f k x7 1).bind fun t171 => (if t171 < 0 then (some false) else (if t171 = x10 then (some true) else (some false))))
end
def laws_FnExactSortLines.f (k : Nat) (l0 : List ByteArray) : Option (Bool) := (laws_szStringS.f k l0 1048576).bind fun t137 => (if t137 < 0 then (some true) else ((laws_toStringS.f k l0).bind fun t138 => ((spec_SortLines.f k t138).bind fun bt141 => ((laws_toStringS.f k l0).bind fun t145 => ((impl_SortLines.f k t145).bind fun bt148 => ((laws_eqStringS.f k bt148.1 bt141.1).bind fun t152 => (if t152 = true then (laws_FnExactSortLines.j0 k l0 bt141.1 bt141.2 t145 bt148.1 bt148.2 (bt148.2 != bt141.2)) else (laws_FnExactSortLines.j0 k l0 bt141.1 bt141.2 t145 bt148.1 bt148.2 true))))))))
set_option maxHeartbeats 8000000 in
set_option maxRecDepth 100000 in
theorem laws_FnExactSortLines.calls (k : Nat) (A0 : Option Addr) (c0 : Nat) (l0 : List ByteArray) (r : Bool) (w : World) (hr0 : Kd.C Kd.string w A0 l0.length l0) (hc0 : l0.length ≤ c0) (h : laws_FnExactSortLines.f k l0 = some r) :
  Calls Try.prog 3 #[.slice A0 l0.length c0] w fun e w' => e = .returned (.bool r) ∧ Below w.heap.size w w' := by
 have HR0 := Aside0.mk hr0
 have HC0 := Aside0.mk hc0
 clear hr0 hc0
 have HB := Aside0.mk (Below.refl w.heap.size w)
 have H : ((laws_szStringS.f k l0 1048576).bind fun t137 => (if t137 < 0 then (some true) else ((laws_toStringS.f k l0).bind fun t138 => ((spec_SortLines.f k t138).bind fun bt141 => ((laws_toStringS.f k l0).bind fun t145 => ((impl_SortLines.f k t145).bind fun bt148 => ((laws_eqStringS.f k bt148.1 bt141.1).bind fun t152 => (if t152 = true then (laws_FnExactSortLines.j0 k l0 bt141.1 bt141.2 t145 bt148.1 bt148.2 (bt148.2 != bt141.2)) else (laws_FnExactSortLines.j0 k l0 bt141.1 bt141.2 t145 bt148.1 bt148.2 true))))))))) = some r := h
 clear h
 replace H := Option.bind_eq_some_iff.mp H
 obtain ⟨t137, A20, H⟩ := H
 replace H : (if t137 < 0 then (some true) else ((laws_toStringS.f k l0).bind fun t138 => ((spec_SortLines.f k t138).bind fun bt141 => ((laws_toStringS.f k l0).bind fun t145 => ((impl_SortLines.f k t145).bind fun bt148 => ((laws_eqStringS.f k bt148.1 bt141.1).bind fun t152 => (if t152 = true then (laws_FnExactSortLines.j0 k l0 bt141.1 bt141.2 t145 bt148.1 bt148.2 (bt148.2 != bt141.2)) else (laws_FnExactSortLines.j0 k l0 bt141.1 bt141.2 t145 bt148.1 bt148.2 true)))))))) = some r := H
 have A2 := Aside0.mk A20
 clear A20
 by_cases c3 : t137 < 0
 ·rw [if_pos c3] at H
  have c3b0 : decide (t137 < 0) = true := decide_eq_true c3
  clear c3
  obtain rfl := Option.some.inj H
  go_enter Try.func3, Try.ntmps3
  go_wp2_with (first | ((with_reducible refine gate_callee (f := 4) rfl ?_); refine goesL_ (some 16) rfl rfl Try.func4 (by kernel_rfl) rfl #[.slice A0 l0.length c0, .int .i64 1048576] rfl gZ ?_; (with_reducible refine (laws_szStringS.calls k _ _ l0 1048576 t137 _ ?side1 ?side2 A2.out).mono ?_); (case side1 => repeat (first | exact HR0.out | (with_reducible refine Kd.C_alloc ?_ _) | (with_reducible refine Kd.C_drewN ?_ _) | (with_reducible refine Kd.C_drew ?_))); (case side2 => exact HC0.out); rintro e w' ⟨rfl, ⟨nd, rfl⟩⟩; refine ⟨_, rfl, ?_⟩))
  go_ret
  exact ⟨eZ, bZ⟩
 ·rw [if_neg c3] at H
  have c3b0 : decide (t137 < 0) = false := decide_eq_false c3
  clear c3
  replace H := Option.bind_eq_some_iff.mp H
  obtain ⟨t138, A40, H⟩ := H
  replace H : ((spec_SortLines.f k t138).bind fun bt141 => ((laws_toStringS.f k l0).bind fun t145 => ((impl_SortLines.f k t145).bind fun bt148 => ((laws_eqStringS.f k bt148.1 bt141.1).bind fun t152 => (if t152 = true then (laws_FnExactSortLines.j0 k l0 bt141.1 bt141.2 t145 bt148.1 bt148.2 (bt148.2 != bt141.2)) else (laws_FnExactSortLines.j0 k l0 bt141.1 bt141.2 t145 bt148.1 bt148.2 true)))))) = some r := H
  have A4 := Aside0.mk A40
  clear A40
  replace H := Option.bind_eq_some_iff.mp H
  obtain ⟨⟨t141, t142⟩, A50, H⟩ := H
  replace H : ((laws_toStringS.f k l0).bind fun t145 => ((impl_SortLines.f k t145).bind fun bt148 => ((laws_eqStringS.f k bt148.1 t141).bind fun t152 => (if t152 = true then (laws_FnExactSortLines.j0 k l0 t141 t142 t145 bt148.1 bt148.2 (bt148.2 != t142)) else (laws_FnExactSortLines.j0 k l0 t141 t142 t145 bt148.1 bt148.2 true))))) = some r := H
  have A5 := Aside0.mk A50
  clear A50
  replace H := Option.bind_eq_some_iff.mp H
  obtain ⟨t145, A60, H⟩ := H
  replace H : ((impl_SortLines.f k t145).bind fun bt148 => ((laws_eqStringS.f k bt148.1 t141).bind fun t152 => (if t152 = true then (laws_FnExactSortLines.j0 k l0 t141 t142 t145 bt148.1 bt148.2 (bt148.2 != t142)) else (laws_FnExactSortLines.j0 k l0 t141 t142 t145 bt148.1 bt148.2 true)))) = some r := H
  have A6 := Aside0.mk A60
  clear A60
  replace H := Option.bind_eq_some_iff.mp H
  obtain ⟨⟨t148, t149⟩, A70, H⟩ := H
  replace H : ((laws_eqStringS.f k t148 t141).bind fun t152 => (if t152 = true then (laws_FnExactSortLines.j0 k l0 t141 t142 t145 t148 t149 (t149 != t142)) else (laws_FnExactSortLines.j0 k l0 t141 t142 t145 t148 t149 true))) = some r := H
  have A7 := Aside0.mk A70
  clear A70
  have HC8 := Aside0.mk H
  clear H
  go_enter Try.func3, Try.ntmps3
  go_upto_region 8 with (first | ((with_reducible refine gate_callee (f := 4) rfl ?_); refine goesL_ (some 16) rfl rfl Try.func4 (by kernel_rfl) rfl #[.slice A0 l0.length c0, .int .i64 1048576] rfl gZ ?_; (with_reducible refine (laws_szStringS.calls k _ _ l0 1048576 t137 _ ?side1 ?side2 A2.out).mono ?_); (case side1 => repeat (first | exact HR0.out | (with_reducible refine Kd.C_alloc ?_ _) | (with_reducible refine Kd.C_drewN ?_ _) | (with_reducible refine Kd.C_drew ?_))); (case side2 => exact HC0.out); rintro e w' ⟨rfl, ⟨nd, rfl⟩⟩; refine ⟨_, rfl, ?_⟩) | ((with_reducible refine gate_callee (f := 6) rfl ?_); refine goesL_ (some 21) rfl rfl Try.func6 (by kernel_rfl) rfl #[.slice A0 l0.length c0] rfl gZ ?_; (with_reducible refine (laws_toStringS.calls k _ _ l0 t138 _ ?side1 ?side2 A4.out).mono ?_); (case side1 => repeat (first | exact HR0.out | (with_reducible refine Kd.C_alloc ?_ _) | (with_reducible refine Kd.C_drewN ?_ _) | (with_reducible refine Kd.C_drew ?_))); (case side2 => exact HC0.out); rintro e w9 ⟨v139, rfl, ho0, hb⟩; refine ⟨_, rfl, ?_⟩; have n0_ := Aside0.mk (Kd.R_lower ho0 bsZ); have n1_ := Aside0.mk (below_step bZ hb); clear HB; have HO140 := n0_; have HB := n1_; clear n0_ n1_; (try clear hb); (try clear hb2); (try clear hk); (try clear hi); (try clear ho0); obtain ⟨Ao10, co10, eo10⟩ := Kd.R_slice HO140.out; subst eo10) | ((with_reducible refine gate_callee (f := 5) rfl ?_); refine goesL_ (some 22) rfl rfl Try.func5 (by kernel_rfl) rfl #[.slice Ao10 t138.length co10] rfl gZ ?_; (with_reducible refine (spec_SortLines.calls k _ _ t138 t141 t142 _ ?side1 ?side2 A5.out).mono ?_); (case side1 => exact Kd.cZ HO140.out); (case side2 => exact (Kd.R_reads' HO140.out).2.1); rintro e w11 ⟨v143, rfl, ho0, hb⟩; refine ⟨_, rfl, ?_⟩; have n0_ := Aside0.mk (Kd.R_elder' (Kd.rZ HO140.out) (Kd.R_base ho0) hb); have n1_ := Aside0.mk (Kd.R_lower (Kd.R_new' ho0 (Kd.R_lt (Kd.rZ HO140.out))) bsZ); have n2_ := Aside0.mk (below_step bZ hb); clear HO140; clear HB; have HO140 := n0_; have HO144 := n1_; have HB := n2_; clear n0_ n1_ n2_; (try clear hb); (try clear hb2); (try clear hk); (try clear hi); (try clear ho0)) | ((with_reducible refine gate_callee (f := 6) rfl ?_); refine goesL_ (some 26) rfl rfl Try.func6 (by kernel_rfl) rfl #[.slice A0 l0.length c0] rfl gZ ?_; (with_reducible refine (laws_toStringS.calls k _ _ l0 t145 _ ?side1 ?side2 A6.out).mono ?_); (case side1 => repeat (first | exact (Kd.C_below HR0.out HB.out) | (with_reducible refine Kd.C_alloc ?_ _) | (with_reducible refine Kd.C_drewN ?_ _) | (with_reducible refine Kd.C_drew ?_))); (case side2 => exact HC0.out); rintro e w12 ⟨v146, rfl, ho0, hb⟩; refine ⟨_, rfl, ?_⟩; have n0_ := Aside0.mk (Kd.R_elder' (Kd.rZ HO140.out) (Kd.R_base ho0) hb); have n1_ := Aside0.mk (Kd.R_elder' (Kd.rZ HO144.out) (Kd.R_base ho0) hb); have n2_ := Aside0.mk (Kd.R_lower (Kd.R_new' (Kd.R_new' ho0 (Kd.R_lt (Kd.rZ HO140.out))) (Kd.R_lt (Kd.rZ HO144.out))) bsZ); have n3_ := Aside0.mk (below_step bZ hb); clear HO140; clear HO144; clear HB; have HO140 := n0_; have HO144 := n1_; have HO147 := n2_; have HB := n3_; clear n0_ n1_ n2_ n3_; (try clear hb); (try clear hb2); (try clear hk); (try clear hi); (try clear ho0); obtain ⟨Ao13, co13, eo13⟩ := Kd.R_slice HO147.out; subst eo13) | ((with_reducible refine gate_callee (f := 7) rfl ?_); refine goesL_ (some 29) rfl rfl Try.func7 (by kernel_rfl) rfl #[.slice Ao13 t145.length co13] rfl gZ ?_; (with_reducible refine (impl_SortLines.calls k _ _ t145 t148 t149 _ ?side1 ?side2 A7.out).mono ?_); (case side1 => exact Kd.cZ HO147.out); (case side2 => exact (Kd.R_reads' HO147.out).2.1); rintro e w14 ⟨v150, rfl, ho0, hb⟩; refine ⟨_, rfl, ?_⟩; have n0_ := Aside0.mk (Kd.R_elder' (Kd.rZ HO140.out) (Kd.R_base ho0) hb); have n1_ := Aside0.mk (Kd.R_elder' (Kd.rZ HO144.out) (Kd.R_base ho0) hb); have n2_ := Aside0.mk (Kd.R_elder' (Kd.rZ HO147.out) (Kd.R_base ho0) hb); have n3_ := Aside0.mk (Kd.R_lower (Kd.R_new' (Kd.R_new' (Kd.R_new' ho0 (Kd.R_lt (Kd.rZ HO140.out))) (Kd.R_lt (Kd.rZ HO144.out))) (Kd.R_lt (Kd.rZ HO147.out))) bsZ); have n4_ := Aside0.mk (below_step bZ hb); clear HO140; clear HO144; clear HO147; clear HB; have HO140 := n0_; have HO144 := n1_; have HO147 := n2_; have HO151 := n3_; have HB := n4_; clear n0_ n1_ n2_ n3_ n4_; (try clear hb); (try clear hb2); (try clear hk); (try clear hi); (try clear ho0)))
  (try simp only [Act.put, List.setIfInBounds_toArray, List.set_cons_zero, List.set_cons_succ])
  go_cut [40] (fun v40 wc => ∃ (kq : Nat) (x40_7 : Bool), v40 = .bool x40_7 ∧ Aside0 (laws_FnExactSortLines.j0 kq l0 t141 t142 t145 t148 t149 x40_7 = some r) ∧ Aside0 (kq ≤ k) ∧ Aside0 (Kd.R Kd.string 9 wc w.heap.size (fun k_ => some k_ ≠ ((.slice Ao13 t145.length co13) : Value).ownBlock ∧ some k_ ≠ (v150 : Value).ownBlock) v143 t141) ∧ Aside0 (Kd.R Kd.string 9 wc w.heap.size (fun k_ => some k_ ≠ (v143 : Value).ownBlock ∧ some k_ ≠ (v150 : Value).ownBlock) (.slice Ao13 t145.length co13) t145) ∧ Aside0 (Kd.R Kd.string 9 wc w.heap.size (fun k_ => some k_ ≠ (v143 : Value).ownBlock ∧ some k_ ≠ ((.slice Ao13 t145.length co13) : Value).ownBlock) v150 t148) ∧ Aside0 (Below w.heap.size w wc))
  case first =>
   have H := HC8.out
   clear HC8
   replace H := Option.bind_eq_some_iff.mp H
   obtain ⟨t152, A150, H⟩ := H
   replace H : (if t152 = true then (laws_FnExactSortLines.j0 k l0 t141 t142 t145 t148 t149 (t149 != t142)) else (laws_FnExactSortLines.j0 k l0 t141 t142 t145 t148 t149 true)) = some r := H
   have A15 := Aside0.mk A150
   clear A150
   by_cases c16 : t152 = true
   ·subst c16
    have H1 : (laws_FnExactSortLines.j0 k l0 t141 t142 t145 t148 t149 (t149 != t142)) = some r := by rw [if_pos rfl] at H; exact H
    clear H
    have H := H1
    clear H1
    have H' := Aside0.mk H
    clear H
    obtain ⟨Ao17, co17, eo17⟩ := Kd.R_slice HO151.out
    subst eo17
    obtain ⟨Ao18, co18, eo18⟩ := Kd.R_slice HO144.out
    subst eo18
    go_wp2_with (first | ((with_reducible refine gate_callee (f := 8) rfl ?_); refine goesL_ (some 34) rfl rfl Try.func8 (by kernel_rfl) rfl #[.slice Ao17 t148.length co17, .slice Ao18 t141.length co18] rfl gZ ?_; (with_reducible refine (laws_eqStringS.calls k _ _ t148 _ _ t141 true _ ?side1 ?side2 ?side3 ?side4 A15.out).mono ?_); (case side1 => exact Kd.cZ HO151.out); (case side2 => exact (Kd.R_reads' HO151.out).2.1); (case side3 => exact Kd.cZ HO144.out); (case side4 => exact (Kd.R_reads' HO144.out).2.1); rintro e w' ⟨rfl, ⟨nd, rfl⟩⟩; refine ⟨_, rfl, ?_⟩))
    go_meet
    case rel => exact ⟨_, ((t149 != t142)), sZ, H', ⟨by first | omega | exact Nat.le_refl _⟩, ⟨Kd.rZ (Kd.R_mono HO144.out (fun _ hk => ⟨hk.1.2, hk.2⟩))⟩, ⟨Kd.rZ (Kd.R_mono HO147.out (fun _ hk => ⟨hk.1.2, hk.2⟩))⟩, ⟨Kd.rZ (Kd.R_mono HO151.out (fun _ hk => ⟨hk.1.2, hk.2⟩))⟩, ⟨bZ⟩⟩
   ·replace c16 := Bool.eq_false_iff.mpr c16
    subst c16
    have H1 : (laws_FnExactSortLines.j0 k l0 t141 t142 t145 t148 t149 true) = some r := by rw [if_neg (show ¬ (false = true) by decide)] at H; exact H
    clear H
    have H := H1
    clear H1
    have H' := Aside0.mk H
    clear H
    obtain ⟨Ao19, co19, eo19⟩ := Kd.R_slice HO151.out
    subst eo19
    obtain ⟨Ao20, co20, eo20⟩ := Kd.R_slice HO144.out
    subst eo20
    go_wp2_with (first | ((with_reducible refine gate_callee (f := 8) rfl ?_); refine goesL_ (some 34) rfl rfl Try.func8 (by kernel_rfl) rfl #[.slice Ao19 t148.length co19, .slice Ao20 t141.length co20] rfl gZ ?_; (with_reducible refine (laws_eqStringS.calls k _ _ t148 _ _ t141 false _ ?side1 ?side2 ?side3 ?side4 A15.out).mono ?_); (case side1 => exact Kd.cZ HO151.out); (case side2 => exact (Kd.R_reads' HO151.out).2.1); (case side3 => exact Kd.cZ HO144.out); (case side4 => exact (Kd.R_reads' HO144.out).2.1); rintro e w' ⟨rfl, ⟨nd, rfl⟩⟩; refine ⟨_, rfl, ?_⟩))
    go_meet
    case rel => exact ⟨_, (true), sZ, H', ⟨by first | omega | exact Nat.le_refl _⟩, ⟨Kd.rZ (Kd.R_mono HO144.out (fun _ hk => ⟨hk.1.2, hk.2⟩))⟩, ⟨Kd.rZ (Kd.R_mono HO147.out (fun _ hk => ⟨hk.1.2, hk.2⟩))⟩, ⟨Kd.rZ (Kd.R_mono HO151.out (fun _ hk => ⟨hk.1.2, hk.2⟩))⟩, ⟨bZ⟩⟩
  case rest =>
   clear HC8; (try clear c1); (try clear p2); (try clear c3); (try clear c3b0); (try clear c4); (try clear c5); (try clear c6); (try clear c7); (try clear c8); (try clear c16)
   obtain ⟨kq, x40_7, rfl, HA, HJ7, HO_4, HO_6, HO_7, HB⟩ := hcut
   cases kq with
   | zero => exact absurd HA.out (by simp [laws_FnExactSortLines.j0])
   | succ kj7 =>
    have H := HA.out
    clear HA
    simp only [laws_FnExactSortLines.j0] at H
    by_cases c21 : x40_7 = true
    ·subst c21
     have H1 : (some false) = some r := by rw [if_pos rfl] at H; exact H
     clear H
     have H := H1
     clear H1
     obtain rfl := Option.some.inj H
     go_wp2
     go_ret
     exact ⟨eZ, bZ⟩
    ·replace c21 := Bool.eq_false_iff.mpr c21
     subst c21
     have H1 : ((laws_toStringS.f kj7 l0).bind fun t153 => ((laws_eqStringS.f kj7 t145 t153).bind fun t156 => (if t156 = true then ((laws_markStringS.f kj7 t145 1).bind fun bt157 => (if bt157.1 < 0 then (laws_FnExactSortLines.j1 kj7 l0 t141 t142 t148 true) else ((laws_eqStringS.f kj7 t148 t141).bind fun t159 => (if t159 = true then (laws_FnExactSortLines.j1 kj7 l0 t141 t142 t148 (t149 != t142)) else (laws_FnExactSortLines.j1 kj7 l0 t141 t142 t148 true))))) else (some false)))) = some r := by rw [if_neg (show ¬ (false = true) by decide)] at H; exact H
     clear H
     have H := H1
     clear H1
     replace H := Option.bind_eq_some_iff.mp H
     obtain ⟨t153, A220, H⟩ := H
     replace H : ((laws_eqStringS.f kj7 t145 t153).bind fun t156 => (if t156 = true then ((laws_markStringS.f kj7 t145 1).bind fun bt157 => (if bt157.1 < 0 then (laws_FnExactSortLines.j1 kj7 l0 t141 t142 t148 true) else ((laws_eqStringS.f kj7 t148 t141).bind fun t159 => (if t159 = true then (laws_FnExactSortLines.j1 kj7 l0 t141 t142 t148 (t149 != t142)) else (laws_FnExactSortLines.j1 kj7 l0 t141 t142 t148 true))))) else (some false))) = some r := H
     have A22 := Aside0.mk A220
     clear A220
     replace H := Option.bind_eq_some_iff.mp H
     obtain ⟨t156, A230, H⟩ := H
     replace H : (if t156 = true then ((laws_markStringS.f kj7 t145 1).bind fun bt157 => (if bt157.1 < 0 then (laws_FnExactSortLines.j1 kj7 l0 t141 t142 t148 true) else ((laws_eqStringS.f kj7 t148 t141).bind fun t159 => (if t159 = true then (laws_FnExactSortLines.j1 kj7 l0 t141 t142 t148 (t149 != t142)) else (laws_FnExactSortLines.j1 kj7 l0 t141 t142 t148 true))))) else (some false)) = some r := H
     have A23 := Aside0.mk A230
     clear A230
     by_cases c24 : t156 = true
     ·subst c24
      have H1 : ((laws_markStringS.f kj7 t145 1).bind fun bt157 => (if bt157.1 < 0 then (laws_FnExactSortLines.j1 kj7 l0 t141 t142 t148 true) else ((laws_eqStringS.f kj7 t148 t141).bind fun t159 => (if t159 = true then (laws_FnExactSortLines.j1 kj7 l0 t141 t142 t148 (t149 != t142)) else (laws_FnExactSortLines.j1 kj7 l0 t141 t142 t148 true))))) = some r := by rw [if_pos rfl] at H; exact H
      clear H
      have H := H1
      clear H1
      replace H := Option.bind_eq_some_iff.mp H
      obtain ⟨⟨t157, t158⟩, A250, H⟩ := H
      replace H : (if t157 < 0 then (laws_FnExactSortLines.j1 kj7 l0 t141 t142 t148 true) else ((laws_eqStringS.f kj7 t148 t141).bind fun t159 => (if t159 = true then (laws_FnExactSortLines.j1 kj7 l0 t141 t142 t148 (t149 != t142)) else (laws_FnExactSortLines.j1 kj7 l0 t141 t142 t148 true)))) = some r := H
      have A25 := Aside0.mk A250
      clear A250
      have HC26 := Aside0.mk H
      clear H
      go_upto_region 14 with (first | ((with_reducible refine gate_callee (f := 6) rfl ?_); refine goesL_ (some 43) rfl rfl Try.func6 (by kernel_rfl) rfl #[.slice A0 l0.length c0] rfl gZ ?_; (with_reducible refine (laws_toStringS.calls kj7 _ _ l0 t153 _ ?side1 ?side2 A22.out).mono ?_); (case side1 => repeat (first | exact (Kd.C_below HR0.out HB.out) | (with_reducible refine Kd.C_alloc ?_ _) | (with_reducible refine Kd.C_drewN ?_ _) | (with_reducible refine Kd.C_drew ?_))); (case side2 => exact HC0.out); rintro e w27 ⟨v154, rfl, ho0, hb⟩; refine ⟨_, rfl, ?_⟩; have n0_ := Aside0.mk (Kd.R_elder' (Kd.rZ HO_4.out) (Kd.R_base ho0) hb); have n1_ := Aside0.mk (Kd.R_elder' (Kd.rZ HO_6.out) (Kd.R_base ho0) hb); have n2_ := Aside0.mk (Kd.R_elder' (Kd.rZ HO_7.out) (Kd.R_base ho0) hb); have n3_ := Aside0.mk (Kd.R_lower (Kd.R_new' (Kd.R_new' (Kd.R_new' ho0 (Kd.R_lt (Kd.rZ HO_4.out))) (Kd.R_lt (Kd.rZ HO_6.out))) (Kd.R_lt (Kd.rZ HO_7.out))) bsZ); have n4_ := Aside0.mk (below_step bZ hb); clear HO_4; clear HO_6; clear HO_7; clear HB; have HO_4 := n0_; have HO_6 := n1_; have HO_7 := n2_; have HO155 := n3_; have HB := n4_; clear n0_ n1_ n2_ n3_ n4_; (try clear hb); (try clear hb2); (try clear hk); (try clear hi); (try clear ho0); obtain ⟨Ao28, co28, eo28⟩ := Kd.R_slice HO155.out; subst eo28) | ((with_reducible refine gate_callee (f := 8) rfl ?_); refine goesL_ (some 44) rfl rfl Try.func8 (by kernel_rfl) rfl #[.slice Ao13 t145.length co13, .slice Ao28 t153.length co28] rfl gZ ?_; (with_reducible refine (laws_eqStringS.calls kj7 _ _ t145 _ _ t153 true _ ?side1 ?side2 ?side3 ?side4 A23.out).mono ?_); (case side1 => exact Kd.cZ HO_6.out); (case side2 => exact (Kd.R_reads' HO_6.out).2.1); (case side3 => exact Kd.cZ HO155.out); (case side4 => exact (Kd.R_reads' HO155.out).2.1); rintro e w' ⟨rfl, ⟨nd, rfl⟩⟩; refine ⟨_, rfl, ?_⟩) | ((with_reducible refine gate_callee (f := 9) rfl ?_); refine goesL_ (some 48) rfl rfl Try.func9 (by kernel_rfl) rfl #[.slice Ao13 t145.length co13, .int .i64 1] rfl gZ ?_; (with_reducible refine (laws_markStringS.calls kj7 (fun k_ => some k_ = (.slice Ao13 t145.length co13 : Value).ownBlock) (.slice Ao13 t145.length co13) t145 1 t157 t158 w _ ?side1 ?side2 A25.out).mono ?_); (case side1 => repeat (first | (with_reducible first | exact HB.out | apply below_alloc | apply pw_below_drewN | apply below_drew1) | exact HB.out)); (case side2 => exact Kd.R_tight rfl HO_6.out); rintro e w29 ⟨rfl, hy0, hb, hkp⟩; refine ⟨_, rfl, ?_⟩; have n0_ := Aside0.mk (Kd.R_mono (ok' := fun k_ => some k_ ≠ (.slice Ao13 t145.length co13 : Value).ownBlock ∧ some k_ ≠ (v150 : Value).ownBlock ∧ some k_ ≠ (.slice Ao28 t153.length co28 : Value).ownBlock) (Kd.R_keptB (HO_4.out) hkp (fun k_ hk_ hs_ => (hk_.1.1) hs_)) (fun k_ hk_ => ⟨hk_.1.1.1, hk_.1.1.2, hk_.1.2⟩)); have n1_ := Aside0.mk (Kd.R_reok rfl hy0 (fun k_ e_ => HO_6.out.1 k_ e_)); have n2_ := Aside0.mk (Kd.R_mono (ok' := fun k_ => some k_ ≠ (v143 : Value).ownBlock ∧ some k_ ≠ (.slice Ao13 t145.length co13 : Value).ownBlock ∧ some k_ ≠ (.slice Ao28 t153.length co28 : Value).ownBlock) (Kd.R_keptB (HO_7.out) hkp (fun k_ hk_ hs_ => (hk_.1.2) hs_)) (fun k_ hk_ => ⟨hk_.1.1.1, hk_.1.1.2, hk_.1.2⟩)); have n3_ := Aside0.mk (Kd.R_mono (ok' := fun k_ => some k_ ≠ (v143 : Value).ownBlock ∧ some k_ ≠ (.slice Ao13 t145.length co13 : Value).ownBlock ∧ some k_ ≠ (v150 : Value).ownBlock) (Kd.R_keptB (HO155.out) hkp (fun k_ hk_ hs_ => (hk_.1.2) hs_)) (fun k_ hk_ => ⟨hk_.1.1.1.2, hk_.1.1.2, hk_.1.2⟩)); have n4_ := Aside0.mk (hb); clear HO_4; clear HO_6; clear HO_7; clear HO155; clear HB; have HO_4 := n0_; have HO_6 := n1_; have HO_7 := n2_; have HO155 := n3_; have HB := n4_; clear n0_ n1_ n2_ n3_ n4_; (try clear hb); (try clear hkp); (try clear hy0)))
      (try simp only [Act.put, List.setIfInBounds_toArray, List.set_cons_zero, List.set_cons_succ])
      go_cut [61] (fun v61 wc => ∃ (kq : Nat) (x61_25 : Bool), v61 = .bool x61_25 ∧ Aside0 (laws_FnExactSortLines.j1 kq l0 t141 t142 t148 x61_25 = some r) ∧ Aside0 (kq ≤ kj7) ∧ Aside0 (Kd.R Kd.string 9 wc w.heap.size (fun k_ => some k_ ≠ (v150 : Value).ownBlock) v143 t141) ∧ Aside0 (Kd.R Kd.string 9 wc w.heap.size (fun k_ => some k_ ≠ (v143 : Value).ownBlock) v150 t148) ∧ Aside0 (Below w.heap.size w wc))
      case first =>
       have H := HC26.out
       clear HC26
       by_cases c30 : t157 < 0
       ·rw [if_pos c30] at H
        have c30b0 : decide (t157 < 0) = true := decide_eq_true c30
        clear c30
        (first | rw [c30b0] | (simp only [i64_w, i32_w]; rw [c30b0]) | skip)
        have H' := Aside0.mk H
        clear H
        go_wp2
        go_meet
        case rel => exact ⟨_, (true), sZ, H', ⟨by have := HJ7.out; first | omega | exact Nat.le_refl _⟩, ⟨Kd.rZ (Kd.R_mono HO_4.out (fun _ hk => hk.2.1))⟩, ⟨Kd.rZ (Kd.R_mono HO_7.out (fun _ hk => hk.1))⟩, ⟨bZ⟩⟩
       ·rw [if_neg c30] at H
        have c30b0 : decide (t157 < 0) = false := decide_eq_false c30
        clear c30
        (first | rw [c30b0] | (simp only [i64_w, i32_w]; rw [c30b0]) | skip)
        replace H := Option.bind_eq_some_iff.mp H
        obtain ⟨t159, A310, H⟩ := H
        replace H : (if t159 = true then (laws_FnExactSortLines.j1 kj7 l0 t141 t142 t148 (t149 != t142)) else (laws_FnExactSortLines.j1 kj7 l0 t141 t142 t148 true)) = some r := H
        have A31 := Aside0.mk A310
        clear A310
        by_cases c32 : t159 = true
        ·subst c32
         have H1 : (laws_FnExactSortLines.j1 kj7 l0 t141 t142 t148 (t149 != t142)) = some r := by rw [if_pos rfl] at H; exact H
         clear H
         have H := H1
         clear H1
         have H' := Aside0.mk H
         clear H
         obtain ⟨Ao33, co33, eo33⟩ := Kd.R_slice HO_7.out
         subst eo33
         obtain ⟨Ao34, co34, eo34⟩ := Kd.R_slice HO_4.out
         subst eo34
         go_wp2_with (first | (go_at_call 8; (with_reducible refine (laws_eqStringS.calls kj7 _ _ t148 _ _ t141 true _ ?side1 ?side2 ?side3 ?side4 A31.out).mono ?_); (case side1 => exact Kd.cZ HO_7.out); (case side2 => exact (Kd.R_reads' HO_7.out).2.1); (case side3 => exact Kd.cZ HO_4.out); (case side4 => exact (Kd.R_reads' HO_4.out).2.1); rintro e w' ⟨rfl, ⟨nd, rfl⟩⟩))
         go_meet
         case rel => exact ⟨_, ((t149 != t142)), sZ, H', ⟨by have := HJ7.out; first | omega | exact Nat.le_refl _⟩, ⟨Kd.rZ (Kd.R_mono HO_4.out (fun _ hk => hk.2.1))⟩, ⟨Kd.rZ (Kd.R_mono HO_7.out (fun _ hk => hk.1))⟩, ⟨bZ⟩⟩
        ·replace c32 := Bool.eq_false_iff.mpr c32
         subst c32
         have H1 : (laws_FnExactSortLines.j1 kj7 l0 t141 t142 t148 true) = some r := by rw [if_neg (show ¬ (false = true) by decide)] at H; exact H
         clear H
         have H := H1
         clear H1
         have H' := Aside0.mk H
         clear H
         obtain ⟨Ao35, co35, eo35⟩ := Kd.R_slice HO_7.out
         subst eo35
         obtain ⟨Ao36, co36, eo36⟩ := Kd.R_slice HO_4.out
         subst eo36
         go_wp2_with (first | (go_at_call 8; (with_reducible refine (laws_eqStringS.calls kj7 _ _ t148 _ _ t141 false _ ?side1 ?side2 ?side3 ?side4 A31.out).mono ?_); (case side1 => exact Kd.cZ HO_7.out); (case side2 => exact (Kd.R_reads' HO_7.out).2.1); (case side3 => exact Kd.cZ HO_4.out); (case side4 => exact (Kd.R_reads' HO_4.out).2.1); rintro e w' ⟨rfl, ⟨nd, rfl⟩⟩))
         go_meet
         case rel => exact ⟨_, (true), sZ, H', ⟨by have := HJ7.out; first | omega | exact Nat.le_refl _⟩, ⟨Kd.rZ (Kd.R_mono HO_4.out (fun _ hk => hk.2.1))⟩, ⟨Kd.rZ (Kd.R_mono HO_7.out (fun _ hk => hk.1))⟩, ⟨bZ⟩⟩
      case rest =>
       clear HC26; (try clear c1); (try clear c2); (try clear p2); (try clear c3); (try clear c3b0); (try clear c4); (try clear c5); (try clear c6); (try clear c7); (try clear c8); (try clear c9); (try clear c16); (try clear c21); (try clear c24); (try clear c30); (try clear c30b0); (try clear c32); (try clear p2)
       obtain ⟨kq, x61_25, rfl, HA, HJ25, HO_4, HO_7, HB⟩ := hcut
       cases kq with
       | zero => exact absurd HA.out (by simp [laws_FnExactSortLines.j1])
       | succ kj25 =>
        have H := HA.out
        clear HA
        simp only [laws_FnExactSortLines.j1] at H
        by_cases c37 : x61_25 = true
        ·subst c37
         have H1 : (some false) = some r := by rw [if_pos rfl] at H; exact H
         clear H
         have H := H1
         clear H1
         obtain rfl := Option.some.inj H
         go_wp2
         go_ret
         exact ⟨eZ, bZ⟩
        ·replace c37 := Bool.eq_false_iff.mpr c37
         subst c37
         have H1 : ((laws_markStringS.f kj25 t148 1).bind fun bt160 => ((laws_heldStringS.f kj25 bt160.2 1).bind fun t162 => (if t162 < 0 then (some false) else (if t162 = bt160.1 then ((laws_toStringS.f kj25 l0).bind fun t163 => ((impl_SortLines.f kj25 t163).bind fun bt166 => ((laws_eqStringS.f kj25 bt166.1 t141).bind fun t170 => (if t170 = true then (laws_FnExactSortLines.j2 kj25 bt160.2 bt160.1 (bt166.2 != t142)) else (laws_FnExactSortLines.j2 kj25 bt160.2 bt160.1 true))))) else (some false))))) = some r := by rw [if_neg (show ¬ (false = true) by decide)] at H; exact H
         clear H
         have H := H1
         clear H1
         replace H := Option.bind_eq_some_iff.mp H
         obtain ⟨⟨t160, t161⟩, A380, H⟩ := H
         replace H : ((laws_heldStringS.f kj25 t161 1).bind fun t162 => (if t162 < 0 then (some false) else (if t162 = t160 then ((laws_toStringS.f kj25 l0).bind fun t163 => ((impl_SortLines.f kj25 t163).bind fun bt166 => ((laws_eqStringS.f kj25 bt166.1 t141).bind fun t170 => (if t170 = true then (laws_FnExactSortLines.j2 kj25 t161 t160 (bt166.2 != t142)) else (laws_FnExactSortLines.j2 kj25 t161 t160 true))))) else (some false)))) = some r := H
         have A38 := Aside0.mk A380
         clear A380
         replace H := Option.bind_eq_some_iff.mp H
         obtain ⟨t162, A390, H⟩ := H
         replace H : (if t162 < 0 then (some false) else (if t162 = t160 then ((laws_toStringS.f kj25 l0).bind fun t163 => ((impl_SortLines.f kj25 t163).bind fun bt166 => ((laws_eqStringS.f kj25 bt166.1 t141).bind fun t170 => (if t170 = true then (laws_FnExactSortLines.j2 kj25 t161 t160 (bt166.2 != t142)) else (laws_FnExactSortLines.j2 kj25 t161 t160 true))))) else (some false))) = some r := H
         have A39 := Aside0.mk A390
         clear A390
         by_cases c40 : t162 < 0
         ·rw [if_pos c40] at H
          have c40b0 : decide (t162 < 0) = true := decide_eq_true c40
          clear c40
          obtain rfl := Option.some.inj H
          obtain ⟨Ao41, co41, eo41⟩ := Kd.R_slice HO_7.out
          subst eo41
          go_wp2_with (first | ((with_reducible refine gate_callee (f := 9) rfl ?_); refine goesL_ (some 64) rfl rfl Try.func9 (by kernel_rfl) rfl #[.slice Ao41 t148.length co41, .int .i64 1] rfl gZ ?_; (with_reducible refine (laws_markStringS.calls kj25 (fun k_ => some k_ = (.slice Ao41 t148.length co41 : Value).ownBlock) (.slice Ao41 t148.length co41) t148 1 t160 t161 w _ ?side1 ?side2 A38.out).mono ?_); (case side1 => repeat (first | (with_reducible first | exact HB.out | apply below_alloc | apply pw_below_drewN | apply below_drew1) | exact HB.out)); (case side2 => exact Kd.R_tight rfl HO_7.out); rintro e w42 ⟨rfl, hy0, hb, hkp⟩; refine ⟨_, rfl, ?_⟩; have n0_ := Aside0.mk (Kd.R_mono (ok' := fun k_ => some k_ ≠ (.slice Ao41 t148.length co41 : Value).ownBlock) (Kd.R_keptB (HO_4.out) hkp (fun k_ hk_ hs_ => (hk_) hs_)) (fun k_ hk_ => hk_.1)); have n1_ := Aside0.mk (Kd.R_reok rfl hy0 (fun k_ e_ => HO_7.out.1 k_ e_)); have n2_ := Aside0.mk (hb); clear HO_4; clear HO_7; clear HB; have HO_4 := n0_; have HO_7 := n1_; have HB := n2_; clear n0_ n1_ n2_; (try clear hb); (try clear hkp); (try clear hy0)) | ((with_reducible refine gate_callee (f := 10) rfl ?_); refine goesL_ (some 67) rfl rfl Try.func10 (by kernel_rfl) rfl #[.slice Ao41 t161.length co41, .int .i64 1] rfl (by (try simp only [List.map_toArray, List.map_cons, List.map_nil]); first | done | (rw [show t161.length = t148.length from (Kd.R_reads' HO_7.out).1.symm] <;> rfl) | rfl | (simp only [List.length_drop, List.length_take]; rfl)) ?_; (with_reducible refine (laws_heldStringS.calls kj25 _ _ t161 1 t162 _ ?side1 ?side2 A39.out).mono ?_); (case side1 => exact Kd.cZ HO_7.out); (case side2 => rw [show t161.length = t148.length from (Kd.R_reads' HO_7.out).1.symm]; exact (Kd.R_reads' HO_7.out).2.1); rintro e w43 ⟨rfl, hb⟩; refine ⟨_, rfl, ?_⟩; have n0_ := Aside0.mk (Kd.R_below (Kd.rZ HO_4.out) hb); have n1_ := Aside0.mk (Kd.R_below (Kd.rZ HO_7.out) hb); have n2_ := Aside0.mk (below_step bZ hb); clear HO_4; clear HO_7; clear HB; have HO_4 := n0_; have HO_7 := n1_; have HB := n2_; clear n0_ n1_ n2_; (try clear hb); (try clear hb2); (try clear hk); (try clear hi)))
          go_ret
          exact ⟨eZ, bZ⟩
         ·rw [if_neg c40] at H
          have c40b0 : decide (t162 < 0) = false := decide_eq_false c40
          clear c40
          by_cases c44 : t162 = t160
          ·rw [if_pos c44] at H
           have c44b0 : (t162 == t160) = true := beq_iff_eq.mpr c44
           have c44b1 : (t162 != t160) = false := bne_eq_false_iff_eq.mpr c44
           clear c44
           replace H := Option.bind_eq_some_iff.mp H
           obtain ⟨t163, A450, H⟩ := H
           replace H : ((impl_SortLines.f kj25 t163).bind fun bt166 => ((laws_eqStringS.f kj25 bt166.1 t141).bind fun t170 => (if t170 = true then (laws_FnExactSortLines.j2 kj25 t161 t160 (bt166.2 != t142)) else (laws_FnExactSortLines.j2 kj25 t161 t160 true)))) = some r := H
           have A45 := Aside0.mk A450
           clear A450
           replace H := Option.bind_eq_some_iff.mp H
           obtain ⟨⟨t166, t167⟩, A460, H⟩ := H
           replace H : ((laws_eqStringS.f kj25 t166 t141).bind fun t170 => (if t170 = true then (laws_FnExactSortLines.j2 kj25 t161 t160 (t167 != t142)) else (laws_FnExactSortLines.j2 kj25 t161 t160 true))) = some r := H
           have A46 := Aside0.mk A460
           clear A460
           have HC47 := Aside0.mk H
           clear H
           obtain ⟨Ao48, co48, eo48⟩ := Kd.R_slice HO_7.out
           subst eo48
           go_upto_region 25 with (first | ((with_reducible refine gate_callee (f := 9) rfl ?_); refine goesL_ (some 64) rfl rfl Try.func9 (by kernel_rfl) rfl #[.slice Ao48 t148.length co48, .int .i64 1] rfl gZ ?_; (with_reducible refine (laws_markStringS.calls kj25 (fun k_ => some k_ = (.slice Ao48 t148.length co48 : Value).ownBlock) (.slice Ao48 t148.length co48) t148 1 t160 t161 w _ ?side1 ?side2 A38.out).mono ?_); (case side1 => repeat (first | (with_reducible first | exact HB.out | apply below_alloc | apply pw_below_drewN | apply below_drew1) | exact HB.out)); (case side2 => exact Kd.R_tight rfl HO_7.out); rintro e w49 ⟨rfl, hy0, hb, hkp⟩; refine ⟨_, rfl, ?_⟩; have n0_ := Aside0.mk (Kd.R_mono (ok' := fun k_ => some k_ ≠ (.slice Ao48 t148.length co48 : Value).ownBlock) (Kd.R_keptB (HO_4.out) hkp (fun k_ hk_ hs_ => (hk_) hs_)) (fun k_ hk_ => hk_.1)); have n1_ := Aside0.mk (Kd.R_reok rfl hy0 (fun k_ e_ => HO_7.out.1 k_ e_)); have n2_ := Aside0.mk (hb); clear HO_4; clear HO_7; clear HB; have HO_4 := n0_; have HO_7 := n1_; have HB := n2_; clear n0_ n1_ n2_; (try clear hb); (try clear hkp); (try clear hy0)) | ((with_reducible refine gate_callee (f := 10) rfl ?_); refine goesL_ (some 67) rfl rfl Try.func10 (by kernel_rfl) rfl #[.slice Ao48 t161.length co48, .int .i64 1] rfl (by (try simp only [List.map_toArray, List.map_cons, List.map_nil]); first | done | (rw [show t161.length = t148.length from (Kd.R_reads' HO_7.out).1.symm] <;> rfl) | rfl | (simp only [List.length_drop, List.length_take]; rfl)) ?_; (with_reducible refine (laws_heldStringS.calls kj25 _ _ t161 1 t162 _ ?side1 ?side2 A39.out).mono ?_); (case side1 => exact Kd.cZ HO_7.out); (case side2 => rw [show t161.length = t148.length from (Kd.R_reads' HO_7.out).1.symm]; exact (Kd.R_reads' HO_7.out).2.1); rintro e w50 ⟨rfl, hb⟩; refine ⟨_, rfl, ?_⟩; have n0_ := Aside0.mk (Kd.R_below (Kd.rZ HO_4.out) hb); have n1_ := Aside0.mk (Kd.R_below (Kd.rZ HO_7.out) hb); have n2_ := Aside0.mk (below_step bZ hb); clear HO_4; clear HO_7; clear HB; have HO_4 := n0_; have HO_7 := n1_; have HB := n2_; clear n0_ n1_ n2_; (try clear hb); (try clear hb2); (try clear hk); (try clear hi)) | ((with_reducible refine gate_callee (f := 6) rfl ?_); refine goesL_ (some 75) rfl rfl Try.func6 (by kernel_rfl) rfl #[.slice A0 l0.length c0] rfl gZ ?_; (with_reducible refine (laws_toStringS.calls kj25 _ _ l0 t163 _ ?side1 ?side2 A45.out).mono ?_); (case side1 => repeat (first | exact (Kd.C_below HR0.out HB.out) | (with_reducible refine Kd.C_alloc ?_ _) | (with_reducible refine Kd.C_drewN ?_ _) | (with_reducible refine Kd.C_drew ?_))); (case side2 => exact HC0.out); rintro e w51 ⟨v164, rfl, ho0, hb⟩; refine ⟨_, rfl, ?_⟩; have n0_ := Aside0.mk (Kd.R_elder' (Kd.rZ HO_4.out) (Kd.R_base ho0) hb); have n1_ := Aside0.mk (Kd.R_elder' (Kd.rZ HO_7.out) (Kd.R_base ho0) hb); have n2_ := Aside0.mk (Kd.R_lower (Kd.R_new' (Kd.R_new' ho0 (Kd.R_lt (Kd.rZ HO_4.out))) (Kd.R_lt (Kd.rZ HO_7.out))) bsZ); have n3_ := Aside0.mk (below_step bZ hb); clear HO_4; clear HO_7; clear HB; have HO_4 := n0_; have HO_7 := n1_; have HO165 := n2_; have HB := n3_; clear n0_ n1_ n2_ n3_; (try clear hb); (try clear hb2); (try clear hk); (try clear hi); (try clear ho0); obtain ⟨Ao52, co52, eo52⟩ := Kd.R_slice HO165.out; subst eo52) | ((with_reducible refine gate_callee (f := 7) rfl ?_); refine goesL_ (some 76) rfl rfl Try.func7 (by kernel_rfl) rfl #[.slice Ao52 t163.length co52] rfl gZ ?_; (with_reducible refine (impl_SortLines.calls kj25 _ _ t163 t166 t167 _ ?side1 ?side2 A46.out).mono ?_); (case side1 => exact Kd.cZ HO165.out); (case side2 => exact (Kd.R_reads' HO165.out).2.1); rintro e w53 ⟨v168, rfl, ho0, hb⟩; refine ⟨_, rfl, ?_⟩; have n0_ := Aside0.mk (Kd.R_elder' (Kd.rZ HO_4.out) (Kd.R_base ho0) hb); have n1_ := Aside0.mk (Kd.R_elder' (Kd.rZ HO_7.out) (Kd.R_base ho0) hb); have n2_ := Aside0.mk (Kd.R_elder' (Kd.rZ HO165.out) (Kd.R_base ho0) hb); have n3_ := Aside0.mk (Kd.R_lower (Kd.R_new' (Kd.R_new' (Kd.R_new' ho0 (Kd.R_lt (Kd.rZ HO_4.out))) (Kd.R_lt (Kd.rZ HO_7.out))) (Kd.R_lt (Kd.rZ HO165.out))) bsZ); have n4_ := Aside0.mk (below_step bZ hb); clear HO_4; clear HO_7; clear HO165; clear HB; have HO_4 := n0_; have HO_7 := n1_; have HO165 := n2_; have HO169 := n3_; have HB := n4_; clear n0_ n1_ n2_ n3_ n4_; (try clear hb); (try clear hb2); (try clear hk); (try clear hi); (try clear ho0)))
           (try simp only [Act.put, List.setIfInBounds_toArray, List.set_cons_zero, List.set_cons_succ])
           go_cut [87] (fun v87 wc => ∃ (kq : Nat) (x87_46 : Bool), v87 = .bool x87_46 ∧ Aside0 (laws_FnExactSortLines.j2 kq t161 t160 x87_46 = some r) ∧ Aside0 (kq ≤ kj25) ∧ Aside0 (Kd.R Kd.string 9 wc w.heap.size (fun _ => True) (.slice Ao48 t148.length co48) t161) ∧ Aside0 (Below w.heap.size w wc))
           case first =>
            have H := HC47.out
            clear HC47
            replace H := Option.bind_eq_some_iff.mp H
            obtain ⟨t170, A540, H⟩ := H
            replace H : (if t170 = true then (laws_FnExactSortLines.j2 kj25 t161 t160 (t167 != t142)) else (laws_FnExactSortLines.j2 kj25 t161 t160 true)) = some r := H
            have A54 := Aside0.mk A540
            clear A540
            by_cases c55 : t170 = true
            ·subst c55
             have H1 : (laws_FnExactSortLines.j2 kj25 t161 t160 (t167 != t142)) = some r := by rw [if_pos rfl] at H; exact H
             clear H
             have H := H1
             clear H1
             have H' := Aside0.mk H
             clear H
             obtain ⟨Ao56, co56, eo56⟩ := Kd.R_slice HO169.out
             subst eo56
             obtain ⟨Ao57, co57, eo57⟩ := Kd.R_slice HO_4.out
             subst eo57
             go_wp2_with (first | ((with_reducible refine gate_callee (f := 8) rfl ?_); refine goesL_ (some 81) rfl rfl Try.func8 (by kernel_rfl) rfl #[.slice Ao56 t166.length co56, .slice Ao57 t141.length co57] rfl gZ ?_; (with_reducible refine (laws_eqStringS.calls kj25 _ _ t166 _ _ t141 true _ ?side1 ?side2 ?side3 ?side4 A54.out).mono ?_); (case side1 => exact Kd.cZ HO169.out); (case side2 => exact (Kd.R_reads' HO169.out).2.1); (case side3 => exact Kd.cZ HO_4.out); (case side4 => exact (Kd.R_reads' HO_4.out).2.1); rintro e w' ⟨rfl, ⟨nd, rfl⟩⟩; refine ⟨_, rfl, ?_⟩))
             go_meet
             case rel => exact ⟨_, ((t167 != t142)), sZ, H', ⟨by have := HJ7.out; have := HJ25.out; first | omega | exact Nat.le_refl _⟩, ⟨Kd.rZ (Kd.R_mono HO_7.out (fun _ hk => trivial))⟩, ⟨bZ⟩⟩
            ·replace c55 := Bool.eq_false_iff.mpr c55
             subst c55
             have H1 : (laws_FnExactSortLines.j2 kj25 t161 t160 true) = some r := by rw [if_neg (show ¬ (false = true) by decide)] at H; exact H
             clear H
             have H := H1
             clear H1
             have H' := Aside0.mk H
             clear H
             obtain ⟨Ao58, co58, eo58⟩ := Kd.R_slice HO169.out
             subst eo58
             obtain ⟨Ao59, co59, eo59⟩ := Kd.R_slice HO_4.out
             subst eo59
             go_wp2_with (first | ((with_reducible refine gate_callee (f := 8) rfl ?_); refine goesL_ (some 81) rfl rfl Try.func8 (by kernel_rfl) rfl #[.slice Ao58 t166.length co58, .slice Ao59 t141.length co59] rfl gZ ?_; (with_reducible refine (laws_eqStringS.calls kj25 _ _ t166 _ _ t141 false _ ?side1 ?side2 ?side3 ?side4 A54.out).mono ?_); (case side1 => exact Kd.cZ HO169.out); (case side2 => exact (Kd.R_reads' HO169.out).2.1); (case side3 => exact Kd.cZ HO_4.out); (case side4 => exact (Kd.R_reads' HO_4.out).2.1); rintro e w' ⟨rfl, ⟨nd, rfl⟩⟩; refine ⟨_, rfl, ?_⟩))
             go_meet
             case rel => exact ⟨_, (true), sZ, H', ⟨by have := HJ7.out; have := HJ25.out; first | omega | exact Nat.le_refl _⟩, ⟨Kd.rZ (Kd.R_mono HO_7.out (fun _ hk => trivial))⟩, ⟨bZ⟩⟩
           case rest =>
            clear HC47; (try clear c1); (try clear c2); (try clear p2); (try clear c3); (try clear c3b0); (try clear c4); (try clear c5); (try clear c6); (try clear c7); (try clear c8); (try clear c9); (try clear c10); (try clear c16); (try clear c21); (try clear c24); (try clear c30); (try clear c30b0); (try clear c32); (try clear c37); (try clear c40); (try clear c40b0); (try clear c44); (try clear c44b0); (try clear c44b1); (try clear c55); (try clear p2)
            obtain ⟨kq, x87_46, rfl, HA, HJ46, HO_7, HB⟩ := hcut
            have hl7_46 := (Kd.R_reads' HO_7.out).1
            rw [hl7_46] at HO_7
            (try simp only [hl7_46])
            cases kq with
            | zero => exact absurd HA.out (by simp [laws_FnExactSortLines.j2])
            | succ kj46 =>
             have H := HA.out
             clear HA
             simp only [laws_FnExactSortLines.j2] at H
             by_cases c60 : x87_46 = true
             ·subst c60
              have H1 : (some false) = some r := by rw [if_pos rfl] at H; exact H
              clear H
              have H := H1
              clear H1
              obtain rfl := Option.some.inj H
              go_wp2
              go_ret
              exact ⟨eZ, bZ⟩
             ·replace c60 := Bool.eq_false_iff.mpr c60
              subst c60
              have H1 : ((laws_heldStringS.f kj46 t161 1).bind fun t171 => (if t171 < 0 then (some false) else (if t171 = t160 then (some true) else (some false)))) = some r := by rw [if_neg (show ¬ (false = true) by decide)] at H; exact H
              clear H
              have H := H1
              clear H1
              replace H := Option.bind_eq_some_iff.mp H
              obtain ⟨t171, A610, H⟩ := H
              replace H : (if t171 < 0 then (some false) else (if t171 = t160 then (some true) else (some false))) = some r := H
              have A61 := Aside0.mk A610
              clear A610
              by_cases c62 : t171 < 0
              ·rw [if_pos c62] at H
               have c62b0 : decide (t171 < 0) = true := decide_eq_true c62
               clear c62
               obtain rfl := Option.some.inj H
               go_wp2_with (first | ((with_reducible refine gate_callee (f := 10) rfl ?_); refine goesL_ (some 90) rfl rfl Try.func10 (by kernel_rfl) rfl #[.slice Ao48 t161.length co48, .int .i64 1] rfl gZ ?_; (with_reducible refine (laws_heldStringS.calls kj46 _ _ t161 1 t171 _ ?side1 ?side2 A61.out).mono ?_); (case side1 => exact Kd.cZ HO_7.out); (case side2 => exact (Kd.R_reads' HO_7.out).2.1); rintro e w63 ⟨rfl, hb⟩; refine ⟨_, rfl, ?_⟩; have n0_ := Aside0.mk (Kd.R_below (Kd.rZ HO_7.out) hb); have n1_ := Aside0.mk (below_step bZ hb); clear HO_7; clear HB; have HO_7 := n0_; have HB := n1_; clear n0_ n1_; (try clear hb); (try clear hb2); (try clear hk); (try clear hi)))
               go_ret
               exact ⟨eZ, bZ⟩
              ·rw [if_neg c62] at H
               have c62b0 : decide (t171 < 0) = false := decide_eq_false c62
               clear c62
               by_cases c64 : t171 = t160
               ·rw [if_pos c64] at H
                have c64b0 : (t171 == t160) = true := beq_iff_eq.mpr c64
                have c64b1 : (t171 != t160) = false := bne_eq_false_iff_eq.mpr c64
                clear c64
                obtain rfl := Option.some.inj H
                go_wp2_with (first | ((with_reducible refine gate_callee (f := 10) rfl ?_); refine goesL_ (some 90) rfl rfl Try.func10 (by kernel_rfl) rfl #[.slice Ao48 t161.length co48, .int .i64 1] rfl gZ ?_; (with_reducible refine (laws_heldStringS.calls kj46 _ _ t161 1 t171 _ ?side1 ?side2 A61.out).mono ?_); (case side1 => exact Kd.cZ HO_7.out); (case side2 => exact (Kd.R_reads' HO_7.out).2.1); rintro e w65 ⟨rfl, hb⟩; refine ⟨_, rfl, ?_⟩; have n0_ := Aside0.mk (Kd.R_below (Kd.rZ HO_7.out) hb); have n1_ := Aside0.mk (below_step bZ hb); clear HO_7; clear HB; have HO_7 := n0_; have HB := n1_; clear n0_ n1_; (try clear hb); (try clear hb2); (try clear hk); (try clear hi)))
                go_ret
                exact ⟨eZ, bZ⟩
               ·rw [if_neg c64] at H
                have c64b0 : (t171 == t160) = false := beq_eq_false_iff_ne.mpr c64
                have c64b1 : (t171 != t160) = true := bne_iff_ne.mpr c64
                obtain rfl := Option.some.inj H
                go_wp2_with (first | ((with_reducible refine gate_callee (f := 10) rfl ?_); refine goesL_ (some 90) rfl rfl Try.func10 (by kernel_rfl) rfl #[.slice Ao48 t161.length co48, .int .i64 1] rfl gZ ?_; (with_reducible refine (laws_heldStringS.calls kj46 _ _ t161 1 t171 _ ?side1 ?side2 A61.out).mono ?_); (case side1 => exact Kd.cZ HO_7.out); (case side2 => exact (Kd.R_reads' HO_7.out).2.1); rintro e w66 ⟨rfl, hb⟩; refine ⟨_, rfl, ?_⟩; have n0_ := Aside0.mk (Kd.R_below (Kd.rZ HO_7.out) hb); have n1_ := Aside0.mk (below_step bZ hb); clear HO_7; clear HB; have HO_7 := n0_; have HB := n1_; clear n0_ n1_; (try clear hb); (try clear hb2); (try clear hk); (try clear hi)))
                go_ret
                exact ⟨eZ, bZ⟩
          ·rw [if_neg c44] at H
           have c44b0 : (t162 == t160) = false := beq_eq_false_iff_ne.mpr c44
           have c44b1 : (t162 != t160) = true := bne_iff_ne.mpr c44
           obtain rfl := Option.some.inj H
           obtain ⟨Ao67, co67, eo67⟩ := Kd.R_slice HO_7.out
           subst eo67
           go_wp2_with (first | ((with_reducible refine gate_callee (f := 9) rfl ?_); refine goesL_ (some 64) rfl rfl Try.func9 (by kernel_rfl) rfl #[.slice Ao67 t148.length co67, .int .i64 1] rfl gZ ?_; (with_reducible refine (laws_markStringS.calls kj25 (fun k_ => some k_ = (.slice Ao67 t148.length co67 : Value).ownBlock) (.slice Ao67 t148.length co67) t148 1 t160 t161 w _ ?side1 ?side2 A38.out).mono ?_); (case side1 => repeat (first | (with_reducible first | exact HB.out | apply below_alloc | apply pw_below_drewN | apply below_drew1) | exact HB.out)); (case side2 => exact Kd.R_tight rfl HO_7.out); rintro e w68 ⟨rfl, hy0, hb, hkp⟩; refine ⟨_, rfl, ?_⟩; have n0_ := Aside0.mk (Kd.R_mono (ok' := fun k_ => some k_ ≠ (.slice Ao67 t148.length co67 : Value).ownBlock) (Kd.R_keptB (HO_4.out) hkp (fun k_ hk_ hs_ => (hk_) hs_)) (fun k_ hk_ => hk_.1)); have n1_ := Aside0.mk (Kd.R_reok rfl hy0 (fun k_ e_ => HO_7.out.1 k_ e_)); have n2_ := Aside0.mk (hb); clear HO_4; clear HO_7; clear HB; have HO_4 := n0_; have HO_7 := n1_; have HB := n2_; clear n0_ n1_ n2_; (try clear hb); (try clear hkp); (try clear hy0)) | ((with_reducible refine gate_callee (f := 10) rfl ?_); refine goesL_ (some 67) rfl rfl Try.func10 (by kernel_rfl) rfl #[.slice Ao67 t161.length co67, .int .i64 1] rfl (by (try simp only [List.map_toArray, List.map_cons, List.map_nil]); first | done | (rw [show t161.length = t148.length from (Kd.R_reads' HO_7.out).1.symm] <;> rfl) | rfl | (simp only [List.length_drop, List.length_take]; rfl)) ?_; (with_reducible refine (laws_heldStringS.calls kj25 _ _ t161 1 t162 _ ?side1 ?side2 A39.out).mono ?_); (case side1 => exact Kd.cZ HO_7.out); (case side2 => rw [show t161.length = t148.length from (Kd.R_reads' HO_7.out).1.symm]; exact (Kd.R_reads' HO_7.out).2.1); rintro e w69 ⟨rfl, hb⟩; refine ⟨_, rfl, ?_⟩; have n0_ := Aside0.mk (Kd.R_below (Kd.rZ HO_4.out) hb); have n1_ := Aside0.mk (Kd.R_below (Kd.rZ HO_7.out) hb); have n2_ := Aside0.mk (below_step bZ hb); clear HO_4; clear HO_7; clear HB; have HO_4 := n0_; have HO_7 := n1_; have HB := n2_; clear n0_ n1_ n2_; (try clear hb); (try clear hb2); (try clear hk); (try clear hi)))
           go_ret
           exact ⟨eZ, bZ⟩
     ·replace c24 := Bool.eq_false_iff.mpr c24
      subst c24
      have H1 : (some false) = some r := by rw [if_neg (show ¬ (false = true) by decide)] at H; exact H
      clear H
      have H := H1
      clear H1
      obtain rfl := Option.some.inj H
      go_wp2_with (first | ((with_reducible refine gate_callee (f := 6) rfl ?_); refine goesL_ (some 43) rfl rfl Try.func6 (by kernel_rfl) rfl #[.slice A0 l0.length c0] rfl gZ ?_; (with_reducible refine (laws_toStringS.calls kj7 _ _ l0 t153 _ ?side1 ?side2 A22.out).mono ?_); (case side1 => repeat (first | exact (Kd.C_below HR0.out HB.out) | (with_reducible refine Kd.C_alloc ?_ _) | (with_reducible refine Kd.C_drewN ?_ _) | (with_reducible refine Kd.C_drew ?_))); (case side2 => exact HC0.out); rintro e w70 ⟨v154, rfl, ho0, hb⟩; refine ⟨_, rfl, ?_⟩; have n0_ := Aside0.mk (Kd.R_elder' (Kd.rZ HO_4.out) (Kd.R_base ho0) hb); have n1_ := Aside0.mk (Kd.R_elder' (Kd.rZ HO_6.out) (Kd.R_base ho0) hb); have n2_ := Aside0.mk (Kd.R_elder' (Kd.rZ HO_7.out) (Kd.R_base ho0) hb); have n3_ := Aside0.mk (Kd.R_lower (Kd.R_new' (Kd.R_new' (Kd.R_new' ho0 (Kd.R_lt (Kd.rZ HO_4.out))) (Kd.R_lt (Kd.rZ HO_6.out))) (Kd.R_lt (Kd.rZ HO_7.out))) bsZ); have n4_ := Aside0.mk (below_step bZ hb); clear HO_4; clear HO_6; clear HO_7; clear HB; have HO_4 := n0_; have HO_6 := n1_; have HO_7 := n2_; have HO155 := n3_; have HB := n4_; clear n0_ n1_ n2_ n3_ n4_; (try clear hb); (try clear hb2); (try clear hk); (try clear hi); (try clear ho0); obtain ⟨Ao71, co71, eo71⟩ := Kd.R_slice HO155.out; subst eo71) | ((with_reducible refine gate_callee (f := 8) rfl ?_); refine goesL_ (some 44) rfl rfl Try.func8 (by kernel_rfl) rfl #[.slice Ao13 t145.length co13, .slice Ao71 t153.length co71] rfl gZ ?_; (with_reducible refine (laws_eqStringS.calls kj7 _ _ t145 _ _ t153 false _ ?side1 ?side2 ?side3 ?side4 A23.out).mono ?_); (case side1 => exact Kd.cZ HO_6.out); (case side2 => exact (Kd.R_reads' HO_6.out).2.1); (case side3 => exact Kd.cZ HO155.out); (case side4 => exact (Kd.R_reads' HO155.out).2.1); rintro e w' ⟨rfl, ⟨nd, rfl⟩⟩; refine ⟨_, rfl, ?_⟩))
      go_ret
      exact ⟨eZ, bZ⟩
end Go.Proofs.Ytadaegehdcngdaa.XY
end

section
namespace Go.Proofs.Ytadaegehdcngdaa.Open
open Go.ChangeShapes Go.WideShapes Go.RowKit Go.Proofs.YtadaegehdcngdaaW.PrintWords
set_option linter.unusedVariables false
def Opens (P : Program) (t : TypeId) {α : Type} (d : Kd α) (Q : α → Prop) : Prop :=
  P.cellsOf t = d.sz ∧ ∀ (H : Type) (enc : TypeId × Value → H) (w : World) (base : Nat) (spare : Nat → Bool) (held : Bool) (fuel : Nat) (cs : List Value) (x : DataW H × List MemPlace),
    DataW.trod enc P w base spare held fuel t cs = some x → ∃ a : α, d.K w a cs ∧ Q a
theorem Opens.int {P : Program} {t : TypeId} {k : IntKind} (hu : P.underlying t = some (.int k)) (hc : P.cellsOf t = 1) : Opens P t (Kd.int k) (fun n => (Lit.int k n).wf = true) := by
  refine ⟨hc, fun H enc w base spare held fuel cs x h => ?_⟩
  obtain ⟨n, rfl, _, hw⟩ := DataW.trod_int hu h
  exact ⟨n, rfl, hw⟩
theorem Opens.bool {P : Program} {t : TypeId} (hu : P.underlying t = some .bool) (hc : P.cellsOf t = 1) : Opens P t Kd.bool (fun _ => True) := by
  refine ⟨hc, fun H enc w base spare held fuel cs x h => ?_⟩
  obtain ⟨b, rfl, _⟩ := DataW.trod_bool hu h
  exact ⟨b, rfl, trivial⟩
theorem Opens.string {P : Program} {t : TypeId} (hu : P.underlying t = some .string) (hc : P.cellsOf t = 1) : Opens P t Kd.string (fun s => s.size ≤ maxLen) := by
  refine ⟨hc, fun H enc w base spare held fuel cs x h => ?_⟩
  obtain ⟨s, rfl, _, hs⟩ := DataW.trod_string hu h
  exact ⟨s, rfl, hs⟩
theorem choose_list {α : Type} {n : Nat} {p : Nat → α → Prop} (h : ∀ i, i < n → ∃ x, p i x) : ∃ l : List α, l.length = n ∧ ∀ i x, l[i]? = some x → p i x := by
  induction n with
  | zero => exact ⟨[], rfl, fun i x hx => by simp at hx⟩
  | succ n ih =>
    obtain ⟨l, hl, hp⟩ := ih (fun i hi => h i (by omega))
    obtain ⟨x, hx⟩ := h n (by omega)
    refine ⟨l ++ [x], by simp [hl], fun i y hy => ?_⟩
    rcases Nat.lt_or_ge i l.length with hi | hi
    · rw [List.getElem?_append_left hi] at hy
      exact hp i y hy
    · have : i = l.length := by
        have := (List.getElem?_eq_some_iff.1 hy).1
        simp at this
        omega
      subst this
      simp at hy
      subst hy
      rw [hl]
      exact hx
theorem cells?_get {w : World} {base : Nat} {a : Addr} {n : Nat} {cs : List Value} (h : w.cells? base a n = some cs) (i : Nat) (u : Value) (hu : cs[i]? = some u) : w.cell? (a.add i) = some u := by
  unfold World.cells? at h
  split at h
  · have hlen : cs.length = n := by simpa using mapM_some_length h
    have hi : i < n := by
      have := (List.getElem?_eq_some_iff.1 hu).1
      omega
    have := mapM_some_get h i i (by simp [hi])
    rw [hu] at this
    exact this
  · cases h
theorem Opens.slice {P : Program} {t e : TypeId} {α : Type} {d : Kd α} {Q : α → Prop} (hu : P.underlying t = some (.slice e)) (hc : P.cellsOf t = 1) (hd : Opens P e d Q) :
    Opens P t (Kd.slice e d) (fun xs => xs.length ≤ maxLen ∧ ∀ x ∈ xs, Q x) := by
  refine ⟨hc, fun H enc w base spare held fuel cs x h => ?_⟩
  rcases Go.Deep.open_slice hu h with ⟨rfl, _⟩ | ⟨a, len, cap, m, n, D, Pl, rfl, _, hl, hm, hmm, _, hx⟩
  · exact ⟨[], ⟨none, 0, rfl, Nat.le_refl _, rfl, by simp, fun h => absurd h (by simp)⟩, by simp, fun x hx => by simp at hx⟩
  · have hlm : len ≤ m := by rw [hmm]; split <;> omega
    obtain ⟨l, hl1, hp⟩ := choose_list (n := len) (p := fun i (x : α) => ∃ cs', w.cells? base (a.add (i * d.sz)) d.sz = some cs' ∧ d.K w x cs' ∧ Q x) (fun i hi => by
      obtain ⟨cs', h1, h2⟩ := hx i (by omega)
      rw [hd.1] at h1
      obtain ⟨y, hy, hq⟩ := hd.2 H enc w base spare held n cs' _ h2
      exact ⟨y, cs', h1, hy, hq⟩)
    have hmax : (maxLen : Nat) = 9223372036854775807 := by unfold maxLen; omega
    refine ⟨l, ⟨some a, cap, by rw [hl1], by omega, rfl, by omega, fun _ => ⟨a, rfl, fun j p hj => ?_⟩⟩, by omega, fun x hx => ?_⟩
    · obtain ⟨cs', h1, h2, _⟩ := hp j p hj
      refine ⟨cs', d.K_len h2, h2, fun i u hi => ?_⟩
      have := cells?_get h1 i u hi
      rwa [Go.Deep.add_add] at this
    · obtain ⟨i, hi, rfl⟩ := List.mem_iff_getElem.1 hx
      obtain ⟨cs', _, _, h3⟩ := hp i _ (List.getElem?_eq_getElem hi)
      exact h3
def OpensF (P : Program) (fs : List Field) (off : Nat) {α : Type} (d : Kd α) (Q : α → Prop) : Prop :=
  ∀ (H : Type) (enc : TypeId × Value → H) (w : World) (base : Nat) (spare : Nat → Bool) (held : Bool) (n : Nat) (cs : List Value), off + d.sz = cs.length →
    (∀ f ∈ fs, ∃ y, DataW.trod enc P w base spare held n f.type ((cs.drop f.offset).take (P.cellsOf f.type)) = some y) → ∃ a : α, d.K w a (cs.drop off) ∧ Q a
theorem OpensF.one {P : Program} {f : Field} {off : Nat} {α : Type} {d : Kd α} {Q : α → Prop} (ho : f.offset = off) (h : Opens P f.type d Q) : OpensF P [f] off d Q := by
  intro H enc w base spare held n cs hl hf
  obtain ⟨y, hy⟩ := hf f List.mem_cons_self
  rw [ho, h.1, List.take_of_length_le (by rw [List.length_drop]; omega)] at hy
  exact h.2 H enc w base spare held n _ y hy
theorem OpensF.cons {P : Program} {f : Field} {fs : List Field} {off : Nat} {α β : Type} {d1 : Kd α} {d2 : Kd β} {Q1 : α → Prop} {Q2 : β → Prop} (ho : f.offset = off) (h : Opens P f.type d1 Q1) (hs : OpensF P fs (off + d1.sz) d2 Q2) :
    OpensF P (f :: fs) off (Kd.pair d1 d2) (fun x => Q1 x.1 ∧ Q2 x.2) := by
  intro H enc w base spare held n cs hl hf
  have hl' : off + (d1.sz + d2.sz) = cs.length := hl
  obtain ⟨y, hy⟩ := hf f List.mem_cons_self
  rw [ho, h.1] at hy
  obtain ⟨a, ha, qa⟩ := h.2 H enc w base spare held n _ y hy
  obtain ⟨b, hb, qb⟩ := hs H enc w base spare held n cs (by omega) (fun g hg => hf g (List.mem_cons_of_mem _ hg))
  refine ⟨(a, b), ⟨_, _, ?_, ha, hb⟩, qa, qb⟩
  rw [← List.drop_drop, List.take_append_drop]
theorem open_sl {H : Type} {enc : TypeId × Value → H} {P : Program} {W : World} {base B : Nat} {spare : Nat → Bool} {held : Bool} {t e : TypeId} {v : Value} {dd : DataW H} {ps : List MemPlace} {α : Type} {d : Kd α} {Q : α → Prop}
    (hu : P.underlying t = some (.slice e)) (hc : P.cellsOf t = 1) (hd : Opens P e d Q) (hv : Value.okWide P W .any B t v) (h : DataW.Trod enc P W base spare held t v dd ps) :
    ∃ (A : Option Addr) (c : Nat) (l : List α), v = .slice A l.length c ∧ l.length ≤ c ∧ Kd.C d W A l.length l ∧ l.length ≤ maxLen ∧ ∀ x ∈ l, Q x := by
  obtain ⟨a0, len, cap, rfl⟩ := okWide_slice hu hv
  obtain ⟨fuel, hf⟩ := h
  obtain ⟨l, ⟨A, c, he, hl, hC⟩, hm, hq⟩ := (Opens.slice hu hc hd).2 H enc W base spare held fuel _ _ hf
  refine ⟨A, c, l, ?_, hl, hC, hm, hq⟩
  simpa [Value.cells] using he
end Go.Proofs.Ytadaegehdcngdaa.Open
end

section
namespace Go.Proofs.Ytadaegehdcngdaa.XY
open Go.RowKit Go.Proofs.YtadaegehdcngdaaW.PrintWords
def laws_FnExactSortLines.Pure : Prop := ∀ (a0 : List ByteArray), ((a0.length ≤ maxLen ∧ ∀ y2 ∈ a0, y2.size ≤ maxLen)) → ∃ k, laws_FnExactSortLines.f k a0 = some true
end Go.Proofs.Ytadaegehdcngdaa.XY
end

section
namespace Go.Proofs.Ytadaegehdcngdaa.EvK
open Go.RowKit Go.Proofs.YtadaegehdcngdaaW.PrintWords
set_option linter.unusedVariables false
theorem w64 {n : Int} (h : -9223372036854775808 ≤ n) (h' : n ≤ 9223372036854775807) : wrap64 n = n := by unfold wrap64; omega
theorem Ev.some {α : Type} {a r : α} (h : a = r) : Ev (fun _ => Option.some a) r := h ▸ Ev.now a
theorem Ev.bind_some {α β : Type} {g : Nat → Option α} {f : Nat → α → Option β} {a : α} {r : β} (h : Ev g a) (k : Ev (fun n => f n a) r) : Ev (fun n => (g n).bind (f n)) r := Ev.bind h k
theorem getD_at {α : Type} (l : List α) (d : α) (i : Nat) (h : i < l.length) : l.getD (i : Int).toNat d = l[i] := by
  simp [List.getD_eq_getElem?_getD, List.getElem?_eq_getElem h]
theorem map_done {α β : Type} (f : α → β) (l : List α) (z : β) (i : Nat) (h : i < l.length) :
    ((l.take i).map f ++ List.replicate (l.length - i) z).set i (f l[i]) = (l.take (i + 1)).map f ++ List.replicate (l.length - (i + 1)) z := by
  have e : l.length - i = (l.length - (i + 1)) + 1 := by omega
  rw [List.set_append_right _ _ (by simp; omega), e, List.replicate_succ]
  have e2 : i - ((l.take i).map f).length = 0 := by simp; omega
  rw [e2, List.set_cons_zero, List.take_succ_eq_append_getElem h, List.map_append]
  simp
theorem done_len {α β : Type} (f : α → β) (l : List α) (z : β) (i : Nat) (h : i ≤ l.length) : ((l.take i).map f ++ List.replicate (l.length - i) z).length = l.length := by simp; omega
def EvP {α : Type} (g : Nat → Option α) (P : α → Prop) : Prop := ∃ r, Ev g r ∧ P r
theorem EvP.now {α : Type} {r : α} {P : α → Prop} (h : P r) : EvP (fun _ => Option.some r) P := ⟨r, Ev.now r, h⟩
theorem EvP.of {α : Type} {g : Nat → Option α} {r : α} {P : α → Prop} (h : Ev g r) (hp : P r) : EvP g P := ⟨r, h, hp⟩
theorem EvP.mono {α : Type} {g : Nat → Option α} {P Q : α → Prop} (h : EvP g P) (hp : ∀ r, P r → Q r) : EvP g Q := by
  obtain ⟨r, h1, h2⟩ := h
  exact ⟨r, h1, hp _ h2⟩
theorem EvP.eq {α : Type} {g : Nat → Option α} {r : α} (h : EvP g (· = r)) : Ev g r := by
  obtain ⟨r', h, rfl⟩ := h
  exact h
theorem EvP.step {α : Type} {g f : Nat → Option α} {P : α → Prop} (h : ∀ k, g (k + 1) = f k) (k : EvP f P) : EvP g P := by
  obtain ⟨r, h1, h2⟩ := k
  exact ⟨r, Ev.step h h1, h2⟩
theorem EvP.bind {α β : Type} {g : Nat → Option α} {f : Nat → α → Option β} {a : α} {P : β → Prop} (h : Ev g a) (k : EvP (fun n => f n a) P) : EvP (fun n => (g n).bind (f n)) P := by
  obtain ⟨r, h1, h2⟩ := k
  exact ⟨r, Ev.bind h h1, h2⟩
theorem EvP.bindP {α β : Type} {g : Nat → Option α} {f : Nat → α → Option β} {Q : α → Prop} {P : β → Prop} (h : EvP g Q) (k : ∀ a, Q a → EvP (fun n => f n a) P) : EvP (fun n => (g n).bind (f n)) P := by
  obtain ⟨a, ha, hq⟩ := h
  exact EvP.bind ha (k a hq)
theorem EvP.rounds {α : Type} {g : Nat → Option α} {r : α} (h : EvP g (· = r)) : ∃ k, g k = Option.some r := Ev.rounds (EvP.eq h)
theorem for_evp {σ ρ : Type} {L : Nat → σ → Int → Option ρ} {Post : ρ → Prop} (n : Nat) (inv : Nat → σ → Prop)
    (step : ∀ (i : Nat) (s : σ), i < n → inv i s → (∀ s', inv (i + 1) s' → EvP (fun k => L k s' ((i : Int) + 1)) Post) → EvP (fun k => L k s i) Post)
    (fin : ∀ s, inv n s → EvP (fun k => L k s n) Post) (s : σ) (h0 : inv 0 s) : EvP (fun k => L k s 0) Post := by
  have key : ∀ (d i : Nat) (s : σ), i + d = n → inv i s → EvP (fun k => L k s i) Post := by
    intro d
    induction d with
    | zero =>
      intro i s hi hs
      obtain rfl : i = n := by omega
      exact fin s hs
    | succ d ih =>
      intro i s hi hs
      refine step i s (by omega) hs (fun s' hs' => ?_)
      simpa using ih (i + 1) s' (by omega) hs'
  simpa using key n 0 s (by omega) h0
theorem take_all {α : Type} {p : α → Prop} {l : List α} {i : Nat} (h : i < l.length) (hs : ∀ x ∈ l.take i, p x) (hx : p l[i]) : ∀ x ∈ l.take (i + 1), p x := by
  rw [List.take_succ_eq_append_getElem h]
  intro x hm
  rcases List.mem_append.1 hm with hm | hm
  · exact hs x hm
  · rw [List.mem_singleton.1 hm]
    exact hx
theorem set_done {α : Type} (E : Nat → α) (l : List α) (i : Nat) (h : i < l.length) : ((List.range i).map E ++ l.drop i).set i (E i) = (List.range (i + 1)).map E ++ l.drop (i + 1) := by
  rw [List.set_append_right _ _ (by simp), List.range_succ, List.map_append, List.append_assoc]
  congr 1
  rw [List.length_map, List.length_range, Nat.sub_self, List.drop_eq_getElem_cons h]
  rfl
theorem getD_set_self {α : Type} (l : List α) (i : Nat) (v d : α) (h : i < l.length) : (l.set i v).getD i d = v := by
  simp [List.getD_eq_getElem?_getD, h]
theorem all_ev {α : Type} {L : Nat → Int → Option Bool} (l : List α) (p : α → Bool) (b : Bool)
    (step : ∀ (i : Nat) (h : i < l.length), p l[i] = true → ∀ P, EvP (fun k => L k ((i : Int) + 1)) P → EvP (fun k => L k i) P)
    (stop : ∀ (i : Nat) (h : i < l.length), p l[i] = false → Ev (fun k => L k i) false)
    (fin : Ev (fun k => L k l.length) b) : Ev (fun k => L k 0) (l.all p && b) := by
  apply EvP.eq
  refine for_evp (L := fun k (_ : Unit) i => L k i) l.length (fun i _ => ∀ x ∈ l.take i, p x = true) ?_ ?_ () (by simp)
  · intro i _ hi hs K
    cases hp : p l[i] with
    | true => exact step i hi hp _ (K () (take_all hi hs hp))
    | false =>
      have e : l.all p = false := by
        rw [List.all_eq_false]
        exact ⟨l[i], List.getElem_mem hi, by simp [hp]⟩
      rw [e]
      exact EvP.of (stop i hi hp) rfl
  · intro _ hs
    have e : l.all p = true := by
      rw [List.all_eq_true]
      simpa using hs
    rw [e]
    exact EvP.of fin rfl
theorem bytes_at_ (s : ByteArray) (i : Nat) (h : i < s.data.toList.length) : bt s (i : Int) = ((s.data.toList[i]).toNat : Int) := by
  have h' : i < s.size := by simpa using h
  unfold bt
  rw [dif_pos (by simpa using h')]
  simp
  rfl
theorem size_len (s : ByteArray) : (s.size : Int) = (s.data.toList.length : Int) := by simp
theorem size_len' (s : ByteArray) : s.size = s.data.toList.length := by simp
end Go.Proofs.Ytadaegehdcngdaa.EvK
end

section
namespace Go.Proofs.Ytadaegehdcngdaa.LinesY
open Go.RowKit Go.Proofs.YtadaegehdcngdaaW.PrintWords Go.Proofs.Ytadaegehdcngdaa.XY Go.Proofs.Ytadaegehdcngdaa.EvK
set_option linter.unusedVariables false
set_option linter.unusedSimpArgs false
def okByte (a b : Int) (c : UInt8) : Bool := decide (a ≤ (c.toNat : Int)) && decide ((c.toNat : Int) ≤ b)
def within (s : ByteArray) (a b : Int) : Bool := s.data.toList.all (okByte a b)
def lineOk (s : ByteArray) : Bool := within s 32 126 && decide ((s.size : Int) ≤ 100)
def repOk (l : List ByteArray) : Bool := l.all lineOk && decide ((l.length : Int) ≤ 200)
theorem bytesWithin_ev (s : ByteArray) (a b : Int) (h : s.size ≤ 1048576) : Ev (fun k => impl_bytesWithin.f k s a b) (within s a b) := by
  unfold impl_bytesWithin.f within
  rw [size_len']  at h
  have := all_ev (L := fun k i => impl_bytesWithin.l0 k s a b (s.size : Int) i) s.data.toList (okByte a b) true ?_ ?_ ?_
  · simpa using this
  · intro i hi hp P K
    simp only [okByte, Bool.and_eq_true, decide_eq_true_eq] at hp
    refine EvP.step (fun k => impl_bytesWithin.l0.eq_2 _ _ _ _ _ k) ?_
    simp only [size_len, if_pos (show (i : Int) < (s.data.toList.length : Int) by omega), if_pos (show (0 : Int) ≤ (i : Int) by omega), bytes_at_ s i hi, if_neg (show ¬ ((s.data.toList[i].toNat : Int) < a) by omega), if_neg (show ¬ ((s.data.toList[i].toNat : Int) > b) by omega), w64 (show -9223372036854775808 ≤ (i : Int) + 1 by omega) (by omega)]
    simpa only [size_len] using K
  · intro i hi hp
    simp only [okByte, Bool.and_eq_false_iff, decide_eq_false_iff_not] at hp
    refine Ev.step (fun k => impl_bytesWithin.l0.eq_2 _ _ _ _ _ k) ?_
    simp only [size_len, if_pos (show (i : Int) < (s.data.toList.length : Int) by omega), if_pos (show (0 : Int) ≤ (i : Int) by omega), bytes_at_ s i hi]
    by_cases h1 : (s.data.toList[i].toNat : Int) < a
    · simp only [if_pos h1]; exact Ev.now _
    · simp only [if_neg h1, if_pos (show (s.data.toList[i].toNat : Int) > b by omega)]; exact Ev.now _
  · refine Ev.step (fun k => impl_bytesWithin.l0.eq_2 _ _ _ _ _ k) ?_
    simp only [size_len, if_neg (show ¬ (s.data.toList.length : Int) < (s.data.toList.length : Int) by omega)]
    exact Ev.now _
theorem impl_line_ev (s : ByteArray) (h : s.size ≤ 1048576) : Ev (fun k => impl_lineValid.f k s) (lineOk s) := by
  unfold impl_lineValid.f lineOk
  by_cases h1 : (s.size : Int) ≤ 100
  · simp only [if_pos h1, h1, decide_true, Bool.and_true]
    exact Ev.bind (bytesWithin_ev s 32 126 h) (Ev.now _)
  · simp only [if_neg h1, h1, decide_false, Bool.and_false]
    exact Ev.now _
theorem spec_line_ev (s : ByteArray) (h : s.size ≤ 1048576) : Ev (fun k => spec_l30Line.f k s) (lineOk s) := by
  unfold spec_l30Line.f lineOk within
  rw [size_len']  at h
  refine all_ev (L := fun k i => spec_l30Line.l0 k s i) s.data.toList (okByte 32 126) (decide ((s.size : Int) ≤ 100)) ?_ ?_ ?_
  · intro i hi hp P K
    simp only [okByte, Bool.and_eq_true, decide_eq_true_eq] at hp
    refine EvP.step (fun k => spec_l30Line.l0.eq_2 _ _ k) ?_
    simp only [size_len, if_pos (show (i : Int) < (s.data.toList.length : Int) by omega), if_pos (show (0 : Int) ≤ (i : Int) by omega), bytes_at_ s i hi, if_neg (show ¬ ((s.data.toList[i].toNat : Int) < 32) by omega), if_neg (show ¬ ((s.data.toList[i].toNat : Int) > 126) by omega), w64 (show -9223372036854775808 ≤ (i : Int) + 1 by omega) (by omega)]
    exact K
  · intro i hi hp
    simp only [okByte, Bool.and_eq_false_iff, decide_eq_false_iff_not] at hp
    refine Ev.step (fun k => spec_l30Line.l0.eq_2 _ _ k) ?_
    simp only [size_len, if_pos (show (i : Int) < (s.data.toList.length : Int) by omega), if_pos (show (0 : Int) ≤ (i : Int) by omega), bytes_at_ s i hi]
    by_cases h1 : (s.data.toList[i].toNat : Int) < 32
    · simp only [if_pos h1]; exact Ev.now _
    · simp only [if_neg h1, if_pos (show (s.data.toList[i].toNat : Int) > 126 by omega)]; exact Ev.now _
  · refine Ev.step (fun k => spec_l30Line.l0.eq_2 _ _ k) ?_
    simp only [size_len, if_neg (show ¬ (s.data.toList.length : Int) < (s.data.toList.length : Int) by omega)]
    exact Ev.now _
theorem spec_rep_ev (l : List ByteArray) (hl : l.length ≤ 1048576) (hs : ∀ x ∈ l, x.size ≤ 1048576) : Ev (fun k => spec_l30Ok.f k l) (repOk l) := by
  unfold spec_l30Ok.f repOk
  refine all_ev (L := fun k i => spec_l30Ok.l0 k l i) l lineOk _ ?_ ?_ ?_
  · intro i hi hp P K
    have e : rdOf ByteArray.empty l (i : Int) = l[i] := getD_at l ByteArray.empty i hi
    refine EvP.step (fun k => spec_l30Ok.l0.eq_2 _ _ k) ?_
    simp only [if_pos (show (i : Int) < (l.length : Int) by omega), if_pos (show (0 : Int) ≤ (i : Int) by omega), e, w64 (show -9223372036854775808 ≤ (i : Int) + 1 by omega) (by omega)]
    refine EvP.bind (spec_line_ev l[i] (hs _ (List.getElem_mem hi))) ?_
    simp only [hp, if_true]
    exact K
  · intro i hi hp
    have e : rdOf ByteArray.empty l (i : Int) = l[i] := getD_at l ByteArray.empty i hi
    refine Ev.step (fun k => spec_l30Ok.l0.eq_2 _ _ k) ?_
    simp only [if_pos (show (i : Int) < (l.length : Int) by omega), if_pos (show (0 : Int) ≤ (i : Int) by omega), e]
    refine Ev.bind (spec_line_ev l[i] (hs _ (List.getElem_mem hi))) ?_
    simp only [hp, Bool.false_eq_true, if_false]
    exact Ev.now _
  · refine Ev.step (fun k => spec_l30Ok.l0.eq_2 _ _ k) ?_
    simp only [if_neg (show ¬ (l.length : Int) < (l.length : Int) by omega)]
    exact Ev.now _
theorem impl_rep_ev (l : List ByteArray) (hl : l.length ≤ 1048576) (hs : ∀ x ∈ l, x.size ≤ 1048576) : Ev (fun k => impl_ValidReport.f k l) (repOk l) := by
  unfold impl_ValidReport.f repOk
  by_cases h1 : (l.length : Int) > 200
  · simp only [if_pos h1, show ¬ (l.length : Int) ≤ 200 by omega, decide_false, Bool.and_false]
    exact Ev.now _
  simp only [if_neg h1, show (l.length : Int) ≤ 200 by omega, decide_true]
  refine all_ev (L := fun k i => impl_ValidReport.l0 k l (l.length : Int) i) l lineOk true ?_ ?_ ?_
  · intro i hi hp P K
    have e : rdOf ByteArray.empty l (i : Int) = l[i] := getD_at l ByteArray.empty i hi
    refine EvP.step (fun k => impl_ValidReport.l0.eq_2 _ _ _ k) ?_
    simp only [if_pos (show (i : Int) < (l.length : Int) by omega), if_pos (show (0 : Int) ≤ (i : Int) by omega), e, w64 (show -9223372036854775808 ≤ (i : Int) + 1 by omega) (by omega)]
    refine EvP.bind (impl_line_ev l[i] (hs _ (List.getElem_mem hi))) ?_
    simp only [hp, if_true]
    exact K
  · intro i hi hp
    have e : rdOf ByteArray.empty l (i : Int) = l[i] := getD_at l ByteArray.empty i hi
    refine Ev.step (fun k => impl_ValidReport.l0.eq_2 _ _ _ k) ?_
    simp only [if_pos (show (i : Int) < (l.length : Int) by omega), if_pos (show (0 : Int) ≤ (i : Int) by omega), e]
    refine Ev.bind (impl_line_ev l[i] (hs _ (List.getElem_mem hi))) ?_
    simp only [hp, Bool.false_eq_true, if_false]
    exact Ev.now _
  · refine Ev.step (fun k => impl_ValidReport.l0.eq_2 _ _ _ k) ?_
    simp only [if_neg (show ¬ (l.length : Int) < (l.length : Int) by omega)]
    exact Ev.now _
end Go.Proofs.Ytadaegehdcngdaa.LinesY
end

section
namespace Go.Proofs.Ytadaegehdcngdaa.PSort
open Go.RowKit Go.Proofs.YtadaegehdcngdaaW.PrintWords Go.Proofs.YtadaegehdcngdaaW.PrintMore Go.Proofs.Ytadaegehdcngdaa.XY Go.Proofs.Ytadaegehdcngdaa.EvK Go.Proofs.Ytadaegehdcngdaa.IterS
set_option linter.unusedVariables false
set_option linter.unusedSimpArgs false
def key (b : ByteArray) : List UInt8 := b.data.toList
theorem key_toList (b : ByteArray) : b.toList = key b := Go.Lib.toList_data b
def insR (x : ByteArray) : List ByteArray → List ByteArray → List ByteArray
  | [], B => x :: B
  | a :: A, B => if key x < key a then insR x A (a :: B) else A.reverse ++ a :: x :: B
theorem insR_perm (x : ByteArray) : ∀ A B, (insR x A B).Perm (A.reverse ++ x :: B)
  | [], B => List.Perm.refl _
  | a :: A, B => by
    unfold insR
    split
    · refine (insR_perm x A (a :: B)).trans ?_
      simp only [List.reverse_cons, List.append_assoc, List.singleton_append]
      exact List.Perm.append_left _ (List.Perm.swap _ _ _)
    · simp
def leK (a b : ByteArray) : Prop := key a ≤ key b
theorem le_tr {a b c : List UInt8} (h : a ≤ b) (k : b ≤ c) : a ≤ c := List.le_trans h k
theorem le_of_lt {a b : List UInt8} (h : a < b) : a ≤ b := List.le_of_lt h
theorem le_of_not {a b : List UInt8} (h : ¬ a < b) : b ≤ a := List.not_lt.1 h
theorem insR_sorted (x : ByteArray) : ∀ A B, (A.reverse ++ B).Pairwise leK → (∀ b ∈ B, key x < key b) → (insR x A B).Pairwise leK
  | [], B => fun h hb => by
    unfold insR
    exact List.pairwise_cons.2 ⟨fun b hm => le_of_lt (hb b hm), h⟩
  | a :: A, B => fun h hb => by
    unfold insR
    simp only [List.reverse_cons, List.append_assoc, List.singleton_append] at h
    split
    · rename_i hlt
      refine insR_sorted x A (a :: B) h (fun b hm => ?_)
      rcases List.mem_cons.1 hm with rfl | hm
      · exact hlt
      · exact hb b hm
    · rename_i hge
      have hax : leK a x := le_of_not hge
      rw [List.pairwise_append] at h ⊢
      obtain ⟨h1, h2, h3⟩ := h
      rw [List.pairwise_cons] at h2
      refine ⟨h1, List.pairwise_cons.2 ⟨fun b hm => ?_, List.pairwise_cons.2 ⟨fun b hm => le_of_lt (hb b hm), h2.2⟩⟩, fun c hc b hm => ?_⟩
      · rcases List.mem_cons.1 hm with rfl | hm
        · exact hax
        · exact h2.1 b hm
      · rcases List.mem_cons.1 hm with rfl | hm
        · exact h3 c hc _ List.mem_cons_self
        · rcases List.mem_cons.1 hm with rfl | hm
          · exact le_tr (h3 c hc a List.mem_cons_self) hax
          · exact h3 c hc b (List.mem_cons_of_mem _ hm)
theorem getD_mid {α : Type} (L M : List α) (a d : α) : (L ++ a :: M).getD L.length d = a := by simp
theorem getD_mid2 {α : Type} (L M : List α) (a x d : α) : (L ++ a :: x :: M).getD (L.length + 1) d = x := by
  simp
theorem swap_mid {α : Type} (L M : List α) (a x : α) : ((L ++ a :: x :: M).set (L.length + 1) a).set L.length x = L ++ x :: a :: M := by
  apply List.ext_getElem?
  intro i
  simp only [List.getElem?_set, List.length_set, List.length_append, List.length_cons, List.getElem?_append]
  by_cases h1 : L.length = i
  · subst h1
    simp
  · by_cases h2 : L.length + 1 = i
    · subst h2
      simp
    · simp only [h1, h2, if_false]
      by_cases h3 : i < L.length
      · simp [h3]
      · obtain ⟨j, rfl⟩ : ∃ j, i = L.length + 2 + j := ⟨i - L.length - 2, by omega⟩
        simp [show L.length + 2 + j - L.length = j + 2 by omega]
theorem inner (x : ByteArray) (x4 : Int) (r : List ByteArray) : ∀ (A B R : List ByteArray), A.length + B.length + R.length + 1 ≤ 1048576 →
    Ev (fun k => spec_l30Sorted.l0 k (insR x A B ++ R) (wrap64 (x4 + 1))) r → Ev (fun k => spec_l30Sorted.l1 k (A.reverse ++ x :: (B ++ R)) x4 (A.length : Int)) r
  | [], B, R, hl, h => by
    refine Ev.step (fun k => spec_l30Sorted.l1.eq_2 _ _ _ k) ?_
    simp only [List.length_nil, Int.natCast_zero, gt_iff_lt, Int.lt_irrefl, if_false, List.reverse_nil, List.nil_append]
    exact h
  | a :: A, B, R, hl, h => by
    simp only [List.length_cons] at hl
    have e1 : wrap64 (((a :: A).length : Int) - 1) = (A.length : Int) := by rw [List.length_cons, w64 (by omega) (by omega)]; omega
    have e2 : (a :: A).reverse ++ x :: (B ++ R) = A.reverse ++ a :: x :: (B ++ R) := by simp
    have e3 : ((a :: A).length : Int) = ((A.length + 1 : Nat) : Int) := by rw [List.length_cons]
    have hlen : (A.reverse ++ a :: x :: (B ++ R)).length = A.length + B.length + R.length + 2 := by simp; omega
    refine Ev.step (fun k => spec_l30Sorted.l1.eq_2 _ _ _ k) ?_
    rw [e1, e2, e3]
    have g1 : rdOf ByteArray.empty (A.reverse ++ a :: x :: (B ++ R)) ((A.length + 1 : Nat) : Int) = x := by
      unfold rdOf
      rw [Int.toNat_natCast]
      have := getD_mid2 A.reverse (B ++ R) a x ByteArray.empty
      rwa [List.length_reverse] at this
    have g2 : rdOf ByteArray.empty (A.reverse ++ a :: x :: (B ++ R)) (A.length : Int) = a := by
      unfold rdOf
      rw [Int.toNat_natCast]
      have := getD_mid A.reverse (x :: (B ++ R)) a ByteArray.empty
      rwa [List.length_reverse] at this
    simp only [g1, g2, if_pos (show ((A.length + 1 : Nat) : Int) > 0 by omega), if_pos (show (0 : Int) ≤ (A.length : Int) by omega), if_pos (show (A.length : Int) < ((A.reverse ++ a :: x :: (B ++ R)).length : Int) by rw [hlen]; omega), if_pos (show (0 : Int) ≤ ((A.length + 1 : Nat) : Int) by omega), if_pos (show ((A.length + 1 : Nat) : Int) < ((A.reverse ++ a :: x :: (B ++ R)).length : Int) by rw [hlen]; omega), key_toList, Go.Proofs.bytesLess_eq, decide_eq_true_eq, Int.toNat_natCast]
    by_cases hlt : key x < key a
    · simp only [if_pos hlt]
      have hs := swap_mid A.reverse (B ++ R) a x
      rw [List.length_reverse] at hs
      rw [hs]
      have hi : insR x (a :: A) B = insR x A (a :: B) := by show (if key x < key a then _ else _) = _; rw [if_pos hlt]
      rw [hi] at h
      have := inner x x4 r A (a :: B) R (by simp only [List.length_cons]; omega) h
      simpa using this
    · simp only [if_neg hlt]
      have hi : insR x (a :: A) B = A.reverse ++ a :: x :: B := by show (if key x < key a then _ else _) = _; rw [if_neg hlt]
      rw [hi] at h
      simpa using h
theorem outer : ∀ (R S : List ByteArray), S.length + R.length ≤ 1048576 → S.Pairwise leK → ∃ out, Ev (fun k => spec_l30Sorted.l0 k (S ++ R) (S.length : Int)) out ∧ out.Pairwise leK ∧ out.Perm (S ++ R)
  | [], S, hl, hs => by
    refine ⟨S, ?_, hs, by simp⟩
    refine Ev.step (fun k => spec_l30Sorted.l0.eq_2 _ _ k) ?_
    simp only [List.append_nil, if_neg (show ¬ (S.length : Int) < (S.length : Int) by omega)]
    exact Ev.now _
  | x :: R, S, hl, hs => by
    simp only [List.length_cons] at hl
    have hp : (insR x S.reverse []).Perm (S ++ [x]) := by have := insR_perm x S.reverse []; rwa [List.reverse_reverse] at this
    have hlen : (insR x S.reverse []).length = S.length + 1 := by rw [hp.length_eq]; simp
    obtain ⟨out, h1, h2, h3⟩ := outer R (insR x S.reverse []) (by rw [hlen]; omega) (insR_sorted x S.reverse [] (by rw [List.reverse_reverse, List.append_nil]; exact hs) (by simp))
    refine ⟨out, ?_, h2, h3.trans ?_⟩
    · refine Ev.step (fun k => spec_l30Sorted.l0.eq_2 _ _ k) ?_
      simp only [if_pos (show (S.length : Int) < ((S ++ x :: R).length : Int) by simp; omega)]
      have := inner x (S.length : Int) out S.reverse [] R (by simp; omega) (by rw [hlen] at h1; rw [w64 (by omega) (by omega)]; exact h1)
      rw [List.reverse_reverse, List.length_reverse, List.nil_append] at this
      exact this
    · refine (List.Perm.append_right R hp).trans ?_
      simp
theorem sortT_eq (l out : List ByteArray) (h1 : out.Pairwise leK) (h2 : out.Perm l) : out = sortT l := by
  have e : out.map key = (l.map key).mergeSort fun x y => decide (x ≤ y) := by
    refine List.Perm.eq_of_pairwise (le := fun a b : List UInt8 => a ≤ b) (fun a b _ _ hab hba => List.le_antisymm hab hba) (List.pairwise_map.2 h1) ?_ ((h2.map key).trans (List.mergeSort_perm _ _).symm)
    have := List.pairwise_mergeSort (le := fun x y : List UInt8 => decide (x ≤ y)) (fun a b c h k => by simp only [decide_eq_true_eq] at h k ⊢; exact le_tr h k) (fun a b => by simp only [Bool.or_eq_true, decide_eq_true_eq]; exact List.le_total a b) (l.map key)
    simpa using this
  unfold sortT
  rw [show (l.map fun b => b.data.toList) = l.map key from rfl, ← e, List.map_map]
  exact (List.map_id'' (f := (fun l => (⟨l.toArray⟩ : ByteArray)) ∘ key) (fun b => rfl) out).symm
theorem sorted_ev (l : List ByteArray) (hl : l.length ≤ 1048576) : Ev (fun k => spec_l30Sorted.f k l) (sortT l) := by
  unfold spec_l30Sorted.f
  refine Ev.bind (Ev.now _) ?_
  simp only [if_pos (show ([] : List ByteArray).length + l.length < 8796093022208 by simp; omega), List.nil_append]
  cases l with
  | nil =>
    refine Ev.step (fun k => spec_l30Sorted.l0.eq_2 _ _ k) ?_
    simp only [List.length_nil, if_neg (show ¬ (1 : Int) < ((0 : Nat) : Int) by omega)]
    have := sortT_eq [] [] List.Pairwise.nil (List.Perm.refl _)
    rw [← this]
    exact Ev.now _
  | cons x R =>
    obtain ⟨out, h1, h2, h3⟩ := outer R [x] (by simp only [List.length_cons] at hl ⊢; simp; omega) (List.pairwise_singleton _ _)
    rw [sortT_eq (x :: R) out h2 h3] at h1
    exact h1
end Go.Proofs.Ytadaegehdcngdaa.PSort
end

section
namespace Go.Proofs.Ytadaegehdcngdaa.SY
open Go.RowKit Go.Proofs.YtadaegehdcngdaaW.PrintWords Go.Proofs.Ytadaegehdcngdaa.XY Go.Proofs.Ytadaegehdcngdaa.EvK
set_option linter.unusedVariables false
set_option linter.unusedSimpArgs false
theorem szStringS_ev (l : List ByteArray) (left : Int) (h0 : 0 ≤ left) (h1 : left ≤ 1048576) (hq : (l.length ≤ maxLen ∧ ∀ y1 ∈ l, y1.size ≤ maxLen)) : EvP (fun k => laws_szStringS.f k l left) (fun t => t ≤ left ∧ (0 ≤ t → l.length ≤ 1048576 ∧ ∀ x ∈ l, x.size ≤ 1048576)) := by
  obtain ⟨hl, hq⟩ := hq
  unfold maxLen at hl
  unfold laws_szStringS.f
  rw [w64 (by omega) (by omega)]
  by_cases hc : left - (l.length : Int) < 0
  · simp only [if_pos hc]
    exact EvP.now ⟨by omega, by omega⟩
  simp only [if_neg hc]
  refine for_evp (L := fun k (s : Int) i => laws_szStringS.l0 k l s i) l.length (fun i s => 0 ≤ s ∧ s ≤ left - (l.length : Int) ∧ ∀ x ∈ l.take i, x.size ≤ 1048576) ?_ ?_ _ ⟨by omega, by omega, by simp⟩
  · rintro i s hi ⟨hs0, hs1, hs⟩ K
    have e : rdOf ByteArray.empty l (i : Int) = l[i] := getD_at l ByteArray.empty i hi
    refine EvP.step (fun k => laws_szStringS.l0.eq_2 _ _ _ k) ?_
    have hz := hq _ (List.getElem_mem hi)
    unfold maxLen at hz
    simp only [if_pos (show (i : Int) < (l.length : Int) by omega), if_pos (show (0 : Int) ≤ (i : Int) by omega), e, w64 (show -9223372036854775808 ≤ (i : Int) + 1 by omega) (by omega), w64 (show -9223372036854775808 ≤ s - (l[i].size : Int) by omega) (by omega)]
    by_cases hn : s - (l[i].size : Int) < 0
    · simp only [if_pos hn]
      exact EvP.now ⟨by omega, by omega⟩
    · simp only [if_neg hn]
      exact K _ ⟨by omega, by omega, take_all hi hs (by omega)⟩
  · rintro s ⟨hs0, hs1, hs⟩
    refine EvP.step (fun k => laws_szStringS.l0.eq_2 _ _ _ k) ?_
    simp only [if_neg (show ¬ (l.length : Int) < (l.length : Int) by omega)]
    exact EvP.now ⟨by omega, fun _ => ⟨by omega, by simpa using hs⟩⟩
end Go.Proofs.Ytadaegehdcngdaa.SY
end

section
namespace Go.Proofs.Ytadaegehdcngdaa.SY
open Go.RowKit Go.Proofs.YtadaegehdcngdaaW.PrintWords Go.Proofs.Ytadaegehdcngdaa.XY Go.Proofs.Ytadaegehdcngdaa.EvK
set_option linter.unusedVariables false
set_option linter.unusedSimpArgs false
def toStringS_el (x : ByteArray) : ByteArray := x
theorem toStringS_ev (l : List ByteArray) (hl : l.length ≤ 1048576) : Ev (fun k => laws_toStringS.f k l) (l.map toStringS_el) := by
  apply EvP.eq
  unfold laws_toStringS.f
  simp only [if_pos (show (0 : Int) ≤ (l.length : Int) by omega), Int.toNat_natCast, if_pos (show l.length ≤ 17592186044416 by omega)]
  refine for_evp (L := fun k (s : List ByteArray) i => laws_toStringS.l0 k l s i) l.length (fun i s => s = (l.take i).map toStringS_el ++ List.replicate (l.length - i) (⟨#[]⟩ : ByteArray)) ?_ ?_ (List.replicate l.length (⟨#[]⟩ : ByteArray)) (by simp)
  · rintro i s hi rfl K
    have e : rdOf ByteArray.empty l (i : Int) = l[i] := getD_at l ByteArray.empty i hi
    have hlen := done_len toStringS_el l (⟨#[]⟩ : ByteArray) i (by omega)
    refine EvP.step (fun k => laws_toStringS.l0.eq_2 _ _ _ k) ?_
    simp only [if_pos (show (i : Int) < (l.length : Int) by omega), if_pos (show (0 : Int) ≤ (i : Int) by omega), e, hlen, w64 (show -9223372036854775808 ≤ (i : Int) + 1 by omega) (by omega), Int.toNat_natCast]
    refine K _ ?_
    show List.set _ i (toStringS_el l[i]) = _
    exact map_done toStringS_el l _ i hi
  · rintro s rfl
    refine EvP.step (fun k => laws_toStringS.l0.eq_2 _ _ _ k) ?_
    simp only [if_neg (show ¬ (l.length : Int) < (l.length : Int) by omega)]
    exact EvP.now (by simp)
end Go.Proofs.Ytadaegehdcngdaa.SY
end

section
namespace Go.Proofs.Ytadaegehdcngdaa.SY
open Go.RowKit Go.Proofs.YtadaegehdcngdaaW.PrintWords Go.Proofs.Ytadaegehdcngdaa.XY Go.Proofs.Ytadaegehdcngdaa.EvK
set_option linter.unusedVariables false
set_option linter.unusedSimpArgs false
theorem eqStringS_ev (l : List ByteArray) (hl : l.length ≤ 1048576) : Ev (fun k => laws_eqStringS.f k l l) true := by
  apply EvP.eq
  unfold laws_eqStringS.f
  simp only [if_true]
  refine for_evp (L := fun k (s : Unit) i => laws_eqStringS.l0 k l l i) l.length (fun i s => True) ?_ ?_ () trivial
  · rintro i s hi - K
    refine EvP.step (fun k => laws_eqStringS.l0.eq_2 _ _ _ k) ?_
    simp only [if_pos (show (i : Int) < (l.length : Int) by omega), if_pos (show (0 : Int) ≤ (i : Int) by omega), if_true, w64 (show -9223372036854775808 ≤ (i : Int) + 1 by omega) (by omega)]
    exact K () trivial
  · rintro s -
    refine EvP.step (fun k => laws_eqStringS.l0.eq_2 _ _ _ k) ?_
    simp only [if_neg (show ¬ (l.length : Int) < (l.length : Int) by omega)]
    exact EvP.now rfl
end Go.Proofs.Ytadaegehdcngdaa.SY
end

section
namespace Go.Proofs.Ytadaegehdcngdaa.SY
open Go.RowKit Go.Proofs.YtadaegehdcngdaaW.PrintWords Go.Proofs.Ytadaegehdcngdaa.XY Go.Proofs.Ytadaegehdcngdaa.EvK
set_option linter.unusedVariables false
set_option linter.unusedSimpArgs false
theorem markText_ev (c : Int) (h0 : 0 ≤ c) (h1 : c ≤ 4611686018427387904) : ∃ s : ByteArray, Ev (fun k => laws_markText.f k c) s := by
  unfold laws_markText.f
  by_cases hc : c ≤ 0
  · simp only [if_pos hc]
    exact ⟨_, Ev.now _⟩
  simp only [if_neg hc]
  have key : ∀ (d : Nat) (x : Int) (y : ByteArray), 0 ≤ x → x ≤ d → y.size + d ≤ 9223372036854775000 → ∃ s : ByteArray, Ev (fun k => laws_markText.l0 k x y) s := by
    intro d
    induction d using Nat.strongRecOn with
    | _ d ih =>
    intro x y hx hd hy
    by_cases hp : x > 0
    · have hz : (strOfNums [(wrap64 (48 + Int.tmod x 10)) % 256]).size = 1 := rfl
      have hd' : Int.tdiv x 10 = x / 10 := Int.tdiv_eq_ediv_of_nonneg hx
      have hw : wrap64 (Int.tdiv x 10) = x / 10 := by rw [hd', w64 (by omega) (by omega)]
      obtain ⟨s, hs⟩ := ih (d - 1) (by omega) (x / 10) (strOfNums [(wrap64 (48 + Int.tmod x 10)) % 256] ++ y) (by omega) (by omega) (by rw [ByteArray.size_append, hz]; omega)
      refine ⟨s, Ev.step (fun k => laws_markText.l0.eq_2 _ _ k) ?_⟩
      simp only [if_pos hp, Option.bind_some, hz, if_pos (show 1 + y.size ≤ 9223372036854775807 by omega), hw]
      exact hs
    · refine ⟨(⟨#[109]⟩ : ByteArray) ++ y, Ev.step (fun k => laws_markText.l0.eq_2 _ _ k) ?_⟩
      simp only [if_neg hp, if_pos (show 1 + y.size ≤ 9223372036854775807 by omega)]
      exact Ev.now _
  exact key c.toNat c ⟨#[]⟩ h0 (by omega) (by show 0 + _ ≤ _; omega)
end Go.Proofs.Ytadaegehdcngdaa.SY
end

section
namespace Go.Proofs.Ytadaegehdcngdaa.SY
open Go.RowKit Go.Proofs.YtadaegehdcngdaaW.PrintWords Go.Proofs.Ytadaegehdcngdaa.XY Go.Proofs.Ytadaegehdcngdaa.EvK
set_option linter.unusedVariables false
set_option linter.unusedSimpArgs false
theorem markStringS_ev (l : List ByteArray) (c : Int) (h0 : 0 ≤ c) (h1 : c + (l.length : Int) ≤ 4611686018427387904) :
    ∃ y : List ByteArray, Ev (fun k => laws_markStringS.f k l c) (c + (l.length : Int), y) ∧ Ev (fun k => laws_heldStringS.f k y c) (c + (l.length : Int)) ∧ y.length = l.length := by
  obtain ⟨T, hT⟩ : ∃ T : Int → ByteArray, ∀ x : Int, 0 ≤ x → x ≤ 4611686018427387904 → Ev (fun k => laws_markText.f k x) (T x) := ⟨fun x => if h : 0 ≤ x ∧ x ≤ 4611686018427387904 then Classical.choose (markText_ev x h.1 h.2) else ByteArray.empty, fun x h h' => by simp only [h, h', and_self, dif_pos]; exact Classical.choose_spec (markText_ev x h h')⟩
  let E : Nat → ByteArray := fun j => T (c + (j : Int))
  have hset : ∀ (i : Nat) (h : i < l.length), ((List.range i).map E ++ l.drop i).set i (E i) = (List.range (i + 1)).map E ++ l.drop (i + 1) := fun i h => set_done E l i h
  have hlen : ∀ (i : Nat), i ≤ l.length → ((List.range i).map E ++ l.drop i).length = l.length := by intro i h; simp; omega
  refine ⟨(List.range l.length).map E, EvP.eq ?_, EvP.eq ?_, by simp⟩
  · unfold laws_markStringS.f
    refine for_evp (L := fun k (s : List ByteArray × Int) i => laws_markStringS.l0 k s.1 s.2 i) l.length (fun i s => s = ((List.range i).map E ++ l.drop i, c + (i : Int))) ?_ ?_ (l, c) (by simp)
    · rintro i s hi rfl K
      refine EvP.step (fun k => laws_markStringS.l0.eq_2 _ _ _ k) ?_
      simp only [hlen i (by omega), if_pos (show (i : Int) < (l.length : Int) by omega), if_pos (show (0 : Int) ≤ (i : Int) by omega), Option.bind_some, w64 (show -9223372036854775808 ≤ (i : Int) + 1 by omega) (by omega), w64 (show -9223372036854775808 ≤ c + (i : Int) + 1 by omega) (by omega), Int.toNat_natCast]
      refine EvP.bind (hT (c + (i : Int)) (by omega) (by omega)) ?_
      refine K (_, _) ?_
      rw [← hset i hi, Prod.mk.injEq]
      refine ⟨?_, by push_cast; omega⟩
      have g1 := hlen i (by omega)
      generalize (List.range i).map E ++ l.drop i = L at g1
      have g2 : i < L.length := by omega
      first | rfl | (simp [E, getD_set_self, g2])
    · rintro s rfl
      refine EvP.step (fun k => laws_markStringS.l0.eq_2 _ _ _ k) ?_
      simp only [hlen l.length (Nat.le_refl _), if_neg (show ¬ (l.length : Int) < (l.length : Int) by omega)]
      exact EvP.now (by simp)
  · unfold laws_heldStringS.f
    have hl2 : ((List.range l.length).map E).length = l.length := by simp
    refine for_evp (L := fun k (s : Int) i => laws_heldStringS.l0 k ((List.range l.length).map E) s i) l.length (fun i s => s = c + (i : Int)) ?_ ?_ c (by simp)
    · rintro i s hi rfl K
      have e : rdOf ByteArray.empty ((List.range l.length).map E) (i : Int) = E i := by
        rw [show rdOf ByteArray.empty ((List.range l.length).map E) (i : Int) = ((List.range l.length).map E)[i]'(by simpa using hi) from getD_at _ ByteArray.empty i (by simpa using hi)]; simp
      refine EvP.step (fun k => laws_heldStringS.l0.eq_2 _ _ _ k) ?_
      simp only [hl2, if_pos (show (i : Int) < (l.length : Int) by omega), if_pos (show (0 : Int) ≤ (i : Int) by omega), e, E, if_true, w64 (show -9223372036854775808 ≤ (i : Int) + 1 by omega) (by omega), w64 (show -9223372036854775808 ≤ c + (i : Int) + 1 by omega) (by omega)]
      refine EvP.bind (hT (c + (i : Int)) (by omega) (by omega)) ?_
      simp only [if_true]
      exact K _ (by push_cast; omega)
    · rintro s rfl
      refine EvP.step (fun k => laws_heldStringS.l0.eq_2 _ _ _ k) ?_
      simp only [hl2, if_neg (show ¬ (l.length : Int) < (l.length : Int) by omega)]
      exact EvP.now rfl
end Go.Proofs.Ytadaegehdcngdaa.SY
end

section
namespace Go.Proofs.Ytadaegehdcngdaa.PureFnExactSortLines
open Go.RowKit Go.Proofs.YtadaegehdcngdaaW.PrintWords Go.Proofs.YtadaegehdcngdaaW.PrintMore Go.Proofs.Ytadaegehdcngdaa.XY Go.Proofs.Ytadaegehdcngdaa.EvK Go.Proofs.Ytadaegehdcngdaa.LinesY Go.Proofs.Ytadaegehdcngdaa.SY Go.Proofs.Ytadaegehdcngdaa.IterS
set_option linter.unusedVariables false
set_option linter.unusedSimpArgs false
def ans (l : List ByteArray) : List ByteArray × Int := if repOk l = true then (sortT l, 0) else ([], 1)
theorem spec_ev (l : List ByteArray) (hl : l.length ≤ 1048576) (hs : ∀ x ∈ l, x.size ≤ 1048576) : Ev (fun k => spec_SortLines.f k l) (ans l) := by
  unfold spec_SortLines.f ans
  refine Ev.bind (spec_rep_ev l hl hs) ?_
  by_cases h : repOk l = true
  · simp only [if_pos h]
    exact Ev.bind (PSort.sorted_ev l hl) (Ev.now _)
  · simp only [if_neg h]
    exact Ev.now _
theorem impl_ev (l : List ByteArray) (hl : l.length ≤ 1048576) (hs : ∀ x ∈ l, x.size ≤ 1048576) : Ev (fun k => impl_SortLines.f k l) (ans l) := by
  unfold impl_SortLines.f ans
  refine Ev.bind (impl_rep_ev l hl hs) ?_
  by_cases h : repOk l = true
  · simp only [if_pos h, if_pos (show l.length * 16 ≤ 140737488351232 by omega)]
    exact Ev.now _
  · simp only [if_neg h]
    exact Ev.now _
theorem pure : laws_FnExactSortLines.Pure := by
  intro l hq
  apply EvP.rounds
  unfold laws_FnExactSortLines.f
  refine EvP.bindP (szStringS_ev l 1048576 (by omega) (by omega) hq) ?_
  intro t ht
  by_cases hn : t < 0
  · simp only [if_pos hn]
    exact EvP.now rfl
  simp only [if_neg hn]
  obtain ⟨h1, h2⟩ := ht.2 (by omega)
  have e : l.map toStringS_el = l := List.map_id l
  have hto := toStringS_ev l h1
  rw [e] at hto
  have hf1 := spec_ev l h1 h2
  have hf2 := impl_ev l h1 h2
  have hlen : (ans l).1.length ≤ 1048576 := by
    unfold ans
    split
    · rw [sortT_len]; exact h1
    · simp
  have hei := eqStringS_ev (ans l).1 hlen
  have hes := eqStringS_ev l h1
  obtain ⟨y, hy1, hy2, hy3⟩ := markStringS_ev (ans l).1 1 (by omega) (by omega)
  obtain ⟨z, hz1, _⟩ := markStringS_ev l 1 (by omega) (by omega)
  generalize (ans l).2 = c at *
  refine EvP.bind hto (EvP.bind hf1 (EvP.bind hto (EvP.bind hf2 (EvP.bind hei ?_))))
  simp only [if_true, bne_self_eq_false]
  refine EvP.step (fun k => laws_FnExactSortLines.j0.eq_2 _ _ _ _ _ _ _ k) ?_
  simp only [Bool.false_eq_true, if_false]
  refine EvP.bind hto (EvP.bind hes ?_)
  simp only [if_true]
  refine EvP.bind hz1 ?_
  simp only [if_neg (show ¬ (1 + (l.length : Int) < 0) by omega)]
  refine EvP.bind hei ?_
  simp only [if_true, bne_self_eq_false]
  refine EvP.step (fun k => laws_FnExactSortLines.j1.eq_2 _ _ _ _ _ k) ?_
  simp only [Bool.false_eq_true, if_false]
  refine EvP.bind hy1 (EvP.bind hy2 ?_)
  simp only [if_neg (show ¬ (1 + ((ans l).1.length : Int) < 0) by omega), if_true]
  refine EvP.bind hto (EvP.bind hf2 (EvP.bind hei ?_))
  simp only [if_true, bne_self_eq_false]
  refine EvP.step (fun k => laws_FnExactSortLines.j2.eq_2 _ _ _ k) ?_
  simp only [Bool.false_eq_true, if_false]
  refine EvP.bind hy2 ?_
  simp only [if_neg (show ¬ (1 + ((ans l).1.length : Int) < 0) by omega), if_true]
  exact EvP.now rfl
end Go.Proofs.Ytadaegehdcngdaa.PureFnExactSortLines
end

section
namespace Go.Proofs.Ytadaegehdcngdaa.RowFnExactSortLines
open Go.ChangeShapes Go.WideShapes Go.ChangeAt Go.RowKit Go.Proofs.YtadaegehdcngdaaW.PrintWords Go.Proofs.Ytadaegehdcngdaa.XY Go.Proofs.Ytadaegehdcngdaa.Open
open Go.ChangeMaps (open_string shut_string)
set_option linter.unusedVariables false
theorem own : ownKnob Try.prog.godebug = none := by kernel_rfl
theorem laidOut : laidOutB Try.prog = true := by kernel_rfl
set_option maxRecDepth 100000 in
theorem lifted (os : Os) (started : os.Started) (H : Type) (enc : TypeId × Value → H) :
    ReturnsInHanded {} Try.checked os 3 .any (Rows.fnExactSortLinesSpec.pre6 enc Try.prog Try.f3 Rows.fnExactSortLinesRow.domain false) (Rows.fnExactSortLinesSpec.post enc Try.prog Try.f3 false true false false) := by
  refine returnsInHanded_of_change_sized (C := Try.checked) own started (by kernel_rfl) Try.func3
    (ChangeSpec.witness6 (enc := enc) (C := Try.checked) false ⟨#[], #[(.slice none 0 0)], []⟩ 8 (by kernel_rfl) (by kernel_rfl) (by kernel_rfl) (by kernel_rfl)) ?_
  intro W base args ds gs before hval0 hW hcnd hsz0 _
  have hsz : (DataW.weightsEach Try.prog (Try.f3.params.toList ++ Rows.fnExactSortLinesSpec.plain.varTypes Try.prog) (ds ++ gs)).all (· ≤ reachBytes) = true := hsz0
  have hval : ∀ (j : Nat) t v, Try.f3.params[j]? = some t → args[j]? = some v → Value.okWide Try.prog W .any base t v := hval0
  have hW' := hW
  obtain ⟨p, q, hA0, hV, rfl, hfz, hnd⟩ := hW
  have hA : DataW.TrodAll enc Try.prog W 0 (fun _ => true) true Try.f3.params.toList args.toList ds p := hA0
  rw [Try.params3] at hA hval hsz
  obtain ⟨v0, vs0, d0, ds0, p0, q0, hargs, rfl, rfl, h0, r0⟩ := trodAll_cons hA
  obtain ⟨rfl, rfl, rfl⟩ := trodAll_nil r0
  obtain rfl : args = #[v0] := by cases args; simp_all
  obtain ⟨rfl, rfl⟩ := trodVars_none hV
  have kk0 := h0
  have lt0 : ∀ x ∈ p0, x.block < W.heap.size := by obtain ⟨m, hm⟩ := kk0; exact DataW.trod_lt m _ _ _ hm
  obtain ⟨A0, c0, a0, rfl, hc0, hr0, hq0⟩ := open_sl Try.underlying22 (by kernel_rfl) (Opens.string Try.underlying9 (by kernel_rfl)) (hval 0 22 v0 rfl rfl) h0
  obtain ⟨k, hp⟩ := PureFnExactSortLines.pure a0 hq0
  clear hA0 hval0 hsz0 hsz
  refine (laws_FnExactSortLines.calls k A0 c0 a0 true W hr0 hc0 hp).mono fun e W' ⟨he, bel0⟩ => ?_
  have bel : Below W.heap.size W W' := bel0
  subst he
  exact ⟨_, rfl, _, _, _, [], _, [], hW', trodAll_mk1 (shut_bool Try.underlying4 _), (trodAll_cons_mk (Below.trod laidOut (by kernel_rfl) (of_decide_eq_true (by kernel_rfl)) kk0 bel lt0) trodAll_mk0), rfl, bel.frame _, fun h => by cases h⟩
theorem over : Rows.fnExactSortLinesRow.holds Try.pinned (OpenSpec.ofChange Rows.fnExactSortLinesSpec) :=
  OpenClaim.holds_of_wide 3 Try.f3 rfl rfl rfl rfl rfl rfl rfl ⟨rfl, rfl, rfl, rfl, rfl⟩ rfl rfl rfl rfl rfl (by kernel_rfl) Try.func3 (by kernel_rfl)
    (of_decide_eq_true (by kernel_rfl)) (by unfold Func.isWrapper; first | (rw [if_pos (by decide +kernel)]; kernel_rfl) | (rw [if_neg (by decide +kernel)]; exact ⟨rfl, rfl⟩))
    (fun os started H enc _ => lifted os started H enc)
end Go.Proofs.Ytadaegehdcngdaa.RowFnExactSortLines
namespace Go.Proofs.Ytadaegehdcngdaa
theorem fnExactSortLines_holds : Rows.FnExactSortLinesSaid := RowFnExactSortLines.over
end Go.Proofs.Ytadaegehdcngdaa
end
