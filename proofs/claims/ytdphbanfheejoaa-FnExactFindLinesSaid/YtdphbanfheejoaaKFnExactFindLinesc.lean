/- The law FnExactFindLines: part 2 of its texts, joined (wip/pack.py). -/
import Derived.Test.YtdphbanfheejoaaKFnExactFindLinesa
import Derived.Test.YtdphbanfheejoaaKFnExactFindLinesb
import Derived.Deep.Slices
import Derived.SizedLaws
import Derived.ChangeArms
import Derived.WideShapes
import Derived.Lib.Strings
import Derived.Test.YtdphbanfheejoaaRows
import Derived.WalkKit
import Derived.ProofKit
import Derived.OpenShut
import Derived.ShutString
import Derived.ChangeOld
import Derived.Below
import Derived.HandedShaped

section
namespace Go.Proofs.Ytdphbanfheejoaa.XB
open Go.RowKit Go.Proofs.YtdphbanfheejoaaW.PrintWords Go.Proofs.YtdphbanfheejoaaW.PrintLast Go.Proofs.YtdphbanfheejoaaW.PrintMore
attribute [local go_sem] max2_int min2_int max_two min_two max_three min_three max_four min_four   -- for this text's walks alone
set_option linter.unusedVariables false
set_option linter.unusedSimpArgs false
mutual
def laws_FnExactFindLines.j0 : Nat → List ByteArray → ByteArray → List Int → Int → List ByteArray → List Int → Int → Bool → Option (Bool)
  | 0, _, _, _, _, _, _, _, _ => none
  | k + 1, x0, x1, x6, x7, x8, x9, x10, x47 => if x47 = true then (some false) else ((laws_toStringS.f k x0).bind fun t306 => ((laws_eqStringS.f k x8 t306).bind fun t309 => (if t309 = true then ((laws_markStringS.f k x8 1).bind fun bt310 => (if bt310.1 < 0 then (laws_FnExactFindLines.j1 k x0 x1 x6 x7 x9 true) else ((laws_eqInt64S.f k x9 x6).bind fun t312 => (if t312 = true then (laws_FnExactFindLines.j1 k x0 x1 x6 x7 x9 (x10 != x7)) else (laws_FnExactFindLines.j1 k x0 x1 x6 x7 x9 true))))) else (some false))))
def laws_FnExactFindLines.j1 : Nat → List ByteArray → ByteArray → List Int → Int → List Int → Bool → Option (Bool)
  | 0, _, _, _, _, _, _ => none
  | k + 1, x0, x1, x6, x7, x9, x68 => if x68 = true then (some false) else ((laws_markInt64S.f k x9 1).bind fun bt313 => ((laws_heldInt64S.f k bt313.2 1).bind fun t315 => (if t315 < 0 then (some false) else (if t315 = bt313.1 then ((laws_toStringS.f k x0).bind fun t316 => ((impl_FindLines.f k t316 x1).bind fun bt319 => ((laws_eqInt64S.f k bt319.1 x6).bind fun t323 => (if t323 = true then (laws_FnExactFindLines.j2 k bt313.2 bt313.1 (bt319.2 != x7)) else (laws_FnExactFindLines.j2 k bt313.2 bt313.1 true))))) else (some false)))))
def laws_FnExactFindLines.j2 : Nat → List Int → Int → Bool → Option (Bool)
  | 0, _, _, _ => none
  | k + 1, x9, x12, x95 => if x95 = true then (some false) else ((laws_heldInt64S.f k x9 1).bind fun t324 => (if t324 < 0 then (some false) else (if t324 = x12 then (some true) else (some false))))
end
def laws_FnExactFindLines.f (k : Nat) (l0 : List ByteArray) (a1 : ByteArray) : Option (Bool) := if (a1.size : Int) > 1048576 then (some true) else ((laws_szStringS.f k l0 1048576).bind fun t290 => (if t290 < 0 then (some true) else ((laws_toStringS.f k l0).bind fun t291 => ((spec_FindLines.f k t291 a1).bind fun bt294 => ((laws_toStringS.f k l0).bind fun t298 => ((impl_FindLines.f k t298 a1).bind fun bt301 => ((laws_eqInt64S.f k bt301.1 bt294.1).bind fun t305 => (if t305 = true then (laws_FnExactFindLines.j0 k l0 a1 bt294.1 bt294.2 t298 bt301.1 bt301.2 (bt301.2 != bt294.2)) else (laws_FnExactFindLines.j0 k l0 a1 bt294.1 bt294.2 t298 bt301.1 bt301.2 true)))))))))
set_option maxHeartbeats 8000000 in
set_option maxRecDepth 100000 in
theorem laws_FnExactFindLines.calls (k : Nat) (A0 : Option Addr) (c0 : Nat) (l0 : List ByteArray) (a1 : ByteArray) (r : Bool) (w : World) (hr0 : Kd.C Kd.string w A0 l0.length l0) (hc0 : l0.length ≤ c0) (hSH : World.ShapedOpen Try.prog w) (h : laws_FnExactFindLines.f k l0 a1 = some r) :
    Calls Try.prog 14 #[.slice A0 l0.length c0, .string a1] w fun e w' => e = .returned (.bool r) ∧ Below w.heap.size w w' := by
  have HR0 := Aside0.mk hr0
  have HC0 := Aside0.mk hc0
  clear hr0 hc0
  have HB := Aside0.mk (Below.refl w.heap.size w)
  have HSH := Aside0.mk hSH
  clear hSH
  have H : (if (a1.size : Int) > 1048576 then (some true) else ((laws_szStringS.f k l0 1048576).bind fun t290 => (if t290 < 0 then (some true) else ((laws_toStringS.f k l0).bind fun t291 => ((spec_FindLines.f k t291 a1).bind fun bt294 => ((laws_toStringS.f k l0).bind fun t298 => ((impl_FindLines.f k t298 a1).bind fun bt301 => ((laws_eqInt64S.f k bt301.1 bt294.1).bind fun t305 => (if t305 = true then (laws_FnExactFindLines.j0 k l0 a1 bt294.1 bt294.2 t298 bt301.1 bt301.2 (bt301.2 != bt294.2)) else (laws_FnExactFindLines.j0 k l0 a1 bt294.1 bt294.2 t298 bt301.1 bt301.2 true)))))))))) = some r := h
  clear h
  by_cases c3 : (a1.size : Int) > 1048576
  · rw [if_pos c3] at H
    have c3b0 : decide (1048576 < (a1.size : Int)) = true := decide_eq_true c3
    have c3b1 : decide (1048576 < a1.size) = true := decide_eq_true (by omega)
    clear c3
    obtain rfl := Option.some.inj H
    go_enter Try.func14, Try.ntmps14
    go_wp2
    go_ret
    exact ⟨by first | rfl | (simp [errW_none, errW_some] <;> rfl) | (simp [*, errW_none, errW_some] <;> rfl), by repeat (first | (with_reducible first | exact HB.out | apply below_alloc | apply pw_below_drewN | apply below_drew1) | exact HB.out)⟩
  · rw [if_neg c3] at H
    have c3b0 : decide (1048576 < (a1.size : Int)) = false := decide_eq_false c3
    have c3b1 : decide (1048576 < a1.size) = false := decide_eq_false (by omega)
    clear c3
    replace H := Option.bind_eq_some_iff.mp H
    obtain ⟨t290, A40, H⟩ := H
    replace H : (if t290 < 0 then (some true) else ((laws_toStringS.f k l0).bind fun t291 => ((spec_FindLines.f k t291 a1).bind fun bt294 => ((laws_toStringS.f k l0).bind fun t298 => ((impl_FindLines.f k t298 a1).bind fun bt301 => ((laws_eqInt64S.f k bt301.1 bt294.1).bind fun t305 => (if t305 = true then (laws_FnExactFindLines.j0 k l0 a1 bt294.1 bt294.2 t298 bt301.1 bt301.2 (bt301.2 != bt294.2)) else (laws_FnExactFindLines.j0 k l0 a1 bt294.1 bt294.2 t298 bt301.1 bt301.2 true)))))))) = some r := H
    have A4 := Aside0.mk A40
    clear A40
    by_cases c5 : t290 < 0
    · rw [if_pos c5] at H
      have c5b0 : decide (t290 < 0) = true := decide_eq_true c5
      clear c5
      obtain rfl := Option.some.inj H
      go_enter Try.func14, Try.ntmps14
      go_wp2_with (first | ((with_reducible refine gate_callee (f := 21) rfl ?_); refine goesL_ (some 21) rfl rfl Try.func21 (by kernel_rfl) rfl #[.slice A0 l0.length c0, .int .i64 1048576] rfl (by (try simp only [List.map_toArray, List.map_cons, List.map_nil]); first | done | rfl | (simp only [List.length_drop, List.length_take]; rfl)) ?_; (with_reducible refine (laws_szStringS.calls k _ _ l0 1048576 t290 _ ?side1 ?side2 A4.out).mono ?_); (case side1 => repeat (first | exact HR0.out | (with_reducible refine Kd.C_alloc ?_ _) | (with_reducible refine Kd.C_drewN ?_ _) | (with_reducible refine Kd.C_drew ?_))); (case side2 => exact HC0.out); rintro e w' ⟨rfl, ⟨nd, rfl⟩⟩; refine ⟨_, rfl, ?_⟩))
      go_ret
      exact ⟨by first | rfl | (simp [errW_none, errW_some] <;> rfl) | (simp [*, errW_none, errW_some] <;> rfl), by repeat (first | (with_reducible first | exact HB.out | apply below_alloc | apply pw_below_drewN | apply below_drew1) | exact HB.out)⟩
    · rw [if_neg c5] at H
      have c5b0 : decide (t290 < 0) = false := decide_eq_false c5
      clear c5
      replace H := Option.bind_eq_some_iff.mp H
      obtain ⟨t291, A60, H⟩ := H
      replace H : ((spec_FindLines.f k t291 a1).bind fun bt294 => ((laws_toStringS.f k l0).bind fun t298 => ((impl_FindLines.f k t298 a1).bind fun bt301 => ((laws_eqInt64S.f k bt301.1 bt294.1).bind fun t305 => (if t305 = true then (laws_FnExactFindLines.j0 k l0 a1 bt294.1 bt294.2 t298 bt301.1 bt301.2 (bt301.2 != bt294.2)) else (laws_FnExactFindLines.j0 k l0 a1 bt294.1 bt294.2 t298 bt301.1 bt301.2 true)))))) = some r := H
      have A6 := Aside0.mk A60
      clear A60
      replace H := Option.bind_eq_some_iff.mp H
      obtain ⟨⟨t294, t295⟩, A70, H⟩ := H
      replace H : ((laws_toStringS.f k l0).bind fun t298 => ((impl_FindLines.f k t298 a1).bind fun bt301 => ((laws_eqInt64S.f k bt301.1 t294).bind fun t305 => (if t305 = true then (laws_FnExactFindLines.j0 k l0 a1 t294 t295 t298 bt301.1 bt301.2 (bt301.2 != t295)) else (laws_FnExactFindLines.j0 k l0 a1 t294 t295 t298 bt301.1 bt301.2 true))))) = some r := H
      have A7 := Aside0.mk A70
      clear A70
      replace H := Option.bind_eq_some_iff.mp H
      obtain ⟨t298, A80, H⟩ := H
      replace H : ((impl_FindLines.f k t298 a1).bind fun bt301 => ((laws_eqInt64S.f k bt301.1 t294).bind fun t305 => (if t305 = true then (laws_FnExactFindLines.j0 k l0 a1 t294 t295 t298 bt301.1 bt301.2 (bt301.2 != t295)) else (laws_FnExactFindLines.j0 k l0 a1 t294 t295 t298 bt301.1 bt301.2 true)))) = some r := H
      have A8 := Aside0.mk A80
      clear A80
      replace H := Option.bind_eq_some_iff.mp H
      obtain ⟨⟨t301, t302⟩, A90, H⟩ := H
      replace H : ((laws_eqInt64S.f k t301 t294).bind fun t305 => (if t305 = true then (laws_FnExactFindLines.j0 k l0 a1 t294 t295 t298 t301 t302 (t302 != t295)) else (laws_FnExactFindLines.j0 k l0 a1 t294 t295 t298 t301 t302 true))) = some r := H
      have A9 := Aside0.mk A90
      clear A90
      have HC10 := Aside0.mk H
      clear H
      go_enter Try.func14, Try.ntmps14
      go_upto_region 10 with (first | ((with_reducible refine gate_callee (f := 21) rfl ?_); refine goesL_ (some 21) rfl rfl Try.func21 (by kernel_rfl) rfl #[.slice A0 l0.length c0, .int .i64 1048576] rfl (by (try simp only [List.map_toArray, List.map_cons, List.map_nil]); first | done | rfl | (simp only [List.length_drop, List.length_take]; rfl)) ?_; (with_reducible refine (laws_szStringS.calls k _ _ l0 1048576 t290 _ ?side1 ?side2 A4.out).mono ?_); (case side1 => repeat (first | exact HR0.out | (with_reducible refine Kd.C_alloc ?_ _) | (with_reducible refine Kd.C_drewN ?_ _) | (with_reducible refine Kd.C_drew ?_))); (case side2 => exact HC0.out); rintro e w' ⟨rfl, ⟨nd, rfl⟩⟩; refine ⟨_, rfl, ?_⟩) | ((with_reducible refine gate_callee (f := 23) rfl ?_); refine goesL_ (some 26) rfl rfl Try.func23 (by kernel_rfl) rfl #[.slice A0 l0.length c0] rfl (by (try simp only [List.map_toArray, List.map_cons, List.map_nil]); first | done | rfl | (simp only [List.length_drop, List.length_take]; rfl)) ?_; (with_reducible refine (laws_toStringS.calls k _ _ l0 t291 _ ?side1 ?side2 A6.out).mono ?_); (case side1 => repeat (first | exact HR0.out | (with_reducible refine Kd.C_alloc ?_ _) | (with_reducible refine Kd.C_drewN ?_ _) | (with_reducible refine Kd.C_drew ?_))); (case side2 => exact HC0.out); rintro e w11 ⟨v292, rfl, ho0, hb⟩; refine ⟨_, rfl, ?_⟩; have n0_ := Aside0.mk (Kd.R_lower ho0 (below_size (by repeat (first | (with_reducible first | exact HB.out | apply below_alloc | apply pw_below_drewN | apply below_drew1) | exact HB.out)))); have n1_ := Aside0.mk (below_step (by repeat (first | (with_reducible first | exact HB.out | apply below_alloc | apply pw_below_drewN | apply below_drew1) | exact HB.out)) hb); clear HB; have HO293 := n0_; have HB := n1_; clear n0_ n1_; (try clear hb); (try clear hb2); (try clear hk); (try clear hi); (try clear ho0); obtain ⟨Ao12, co12, eo12⟩ := Kd.R_slice HO293.out; subst eo12) | ((with_reducible refine gate_callee (f := 65) rfl ?_); refine goesL_ (some 28) rfl rfl Try.func65 (by kernel_rfl) rfl #[.slice Ao12 t291.length co12, .string a1] rfl (by (try simp only [List.map_toArray, List.map_cons, List.map_nil]); first | done | rfl | (simp only [List.length_drop, List.length_take]; rfl)) ?_; (with_reducible refine (spec_FindLines.calls k _ _ t291 a1 t294 t295 _ ?side1 ?side2 A7.out).mono ?_); (case side1 => repeat (first | exact (Kd.R_reads' HO293.out).2.2 | (with_reducible refine Kd.C_alloc ?_ _) | (with_reducible refine Kd.C_drewN ?_ _) | (with_reducible refine Kd.C_drew ?_))); (case side2 => exact (Kd.R_reads' HO293.out).2.1); rintro e w13 ⟨v296, rfl, ho0, hb⟩; refine ⟨_, rfl, ?_⟩; have n0_ := Aside0.mk (Kd.R_below (by (with_reducible repeat (first | apply Kd.R_alloc | apply Kd.R_drewN | apply Kd.R_drew)); exact HO293.out) hb); have n1_ := Aside0.mk (Kd.R_lower ho0 (below_size (by repeat (first | (with_reducible first | exact HB.out | apply below_alloc | apply pw_below_drewN | apply below_drew1) | exact HB.out)))); have n2_ := Aside0.mk (below_step (by repeat (first | (with_reducible first | exact HB.out | apply below_alloc | apply pw_below_drewN | apply below_drew1) | exact HB.out)) hb); clear HO293; clear HB; have HO293 := n0_; have HO297 := n1_; have HB := n2_; clear n0_ n1_ n2_; (try clear hb); (try clear hb2); (try clear hk); (try clear hi); (try clear ho0)) | ((with_reducible refine gate_callee (f := 23) rfl ?_); refine goesL_ (some 32) rfl rfl Try.func23 (by kernel_rfl) rfl #[.slice A0 l0.length c0] rfl (by (try simp only [List.map_toArray, List.map_cons, List.map_nil]); first | done | rfl | (simp only [List.length_drop, List.length_take]; rfl)) ?_; (with_reducible refine (laws_toStringS.calls k _ _ l0 t298 _ ?side1 ?side2 A8.out).mono ?_); (case side1 => repeat (first | exact (Kd.C_below HR0.out HB.out) | (with_reducible refine Kd.C_alloc ?_ _) | (with_reducible refine Kd.C_drewN ?_ _) | (with_reducible refine Kd.C_drew ?_))); (case side2 => exact HC0.out); rintro e w14 ⟨v299, rfl, ho0, hb⟩; refine ⟨_, rfl, ?_⟩; have n0_ := Aside0.mk (Kd.R_elder' (by (with_reducible repeat (first | apply Kd.R_alloc | apply Kd.R_drewN | apply Kd.R_drew)); exact HO293.out) (Kd.R_base ho0) hb); have n1_ := Aside0.mk (Kd.R_below (by (with_reducible repeat (first | apply Kd.R_alloc | apply Kd.R_drewN | apply Kd.R_drew)); exact HO297.out) hb); have n2_ := Aside0.mk (Kd.R_lower (Kd.R_new' ho0 (Kd.R_lt (by (with_reducible repeat (first | apply Kd.R_alloc | apply Kd.R_drewN | apply Kd.R_drew)); exact HO293.out))) (below_size (by repeat (first | (with_reducible first | exact HB.out | apply below_alloc | apply pw_below_drewN | apply below_drew1) | exact HB.out)))); have n3_ := Aside0.mk (below_step (by repeat (first | (with_reducible first | exact HB.out | apply below_alloc | apply pw_below_drewN | apply below_drew1) | exact HB.out)) hb); clear HO293; clear HO297; clear HB; have HO293 := n0_; have HO297 := n1_; have HO300 := n2_; have HB := n3_; clear n0_ n1_ n2_ n3_; (try clear hb); (try clear hb2); (try clear hk); (try clear hi); (try clear ho0); obtain ⟨Ao15, co15, eo15⟩ := Kd.R_slice HO300.out; subst eo15) | ((with_reducible refine gate_callee (f := 66) rfl ?_); refine goesL_ (some 36) rfl rfl Try.func66 (by kernel_rfl) rfl #[.slice Ao15 t298.length co15, .string a1] rfl (by (try simp only [List.map_toArray, List.map_cons, List.map_nil]); first | done | rfl | (simp only [List.length_drop, List.length_take]; rfl)) ?_; (with_reducible refine (impl_FindLines.calls k _ _ t298 a1 t301 t302 _ ?side1 ?side2 ?side3 A9.out).mono ?_); (case side1 => repeat (first | exact (Kd.R_reads' HO300.out).2.2 | (with_reducible refine Kd.C_alloc ?_ _) | (with_reducible refine Kd.C_drewN ?_ _) | (with_reducible refine Kd.C_drew ?_))); (case side2 => exact (Kd.R_reads' HO300.out).2.1); (case side3 => exact HSH.out.keptBut ((show Below w.heap.size w _ from by repeat (first | (with_reducible first | exact HB.out | apply below_alloc | apply pw_below_drewN | apply below_drew1) | exact HB.out)).frame (fun _ => False)) (fun _ h_ => h_.elim)); rintro e w16 ⟨v303, rfl, ho0, hb⟩; refine ⟨_, rfl, ?_⟩; have n0_ := Aside0.mk (Kd.R_below (by (with_reducible repeat (first | apply Kd.R_alloc | apply Kd.R_drewN | apply Kd.R_drew)); exact HO293.out) hb); have n1_ := Aside0.mk (Kd.R_elder' (by (with_reducible repeat (first | apply Kd.R_alloc | apply Kd.R_drewN | apply Kd.R_drew)); exact HO297.out) (Kd.R_base ho0) hb); have n2_ := Aside0.mk (Kd.R_below (by (with_reducible repeat (first | apply Kd.R_alloc | apply Kd.R_drewN | apply Kd.R_drew)); exact HO300.out) hb); have n3_ := Aside0.mk (Kd.R_lower (Kd.R_new' ho0 (Kd.R_lt (by (with_reducible repeat (first | apply Kd.R_alloc | apply Kd.R_drewN | apply Kd.R_drew)); exact HO297.out))) (below_size (by repeat (first | (with_reducible first | exact HB.out | apply below_alloc | apply pw_below_drewN | apply below_drew1) | exact HB.out)))); have n4_ := Aside0.mk (below_step (by repeat (first | (with_reducible first | exact HB.out | apply below_alloc | apply pw_below_drewN | apply below_drew1) | exact HB.out)) hb); clear HO293; clear HO297; clear HO300; clear HB; have HO293 := n0_; have HO297 := n1_; have HO300 := n2_; have HO304 := n3_; have HB := n4_; clear n0_ n1_ n2_ n3_ n4_; (try clear hb); (try clear hb2); (try clear hk); (try clear hi); (try clear ho0)))
      (try simp only [Act.put, List.setIfInBounds_toArray, List.set_cons_zero, List.set_cons_succ])
      go_cut [47] (fun v47 wc => ∃ (kq : Nat) (x47_9 : Bool), v47 = .bool x47_9 ∧ Aside0 (laws_FnExactFindLines.j0 kq l0 a1 t294 t295 t298 t301 t302 x47_9 = some r) ∧ Aside0 (kq ≤ k) ∧ Aside0 (Kd.R (Kd.int .i64) 2 wc w.heap.size (fun k_ => some k_ ≠ (v303 : Value).ownBlock) v296 t294) ∧ Aside0 (Kd.R Kd.string 9 wc w.heap.size (fun _ => True) (.slice Ao15 t298.length co15) t298) ∧ Aside0 (Kd.R (Kd.int .i64) 2 wc w.heap.size (fun k_ => some k_ ≠ (v296 : Value).ownBlock) v303 t301) ∧ Aside0 (Below w.heap.size w wc))
      case first =>
        have H := HC10.out
        clear HC10
        replace H := Option.bind_eq_some_iff.mp H
        obtain ⟨t305, A170, H⟩ := H
        replace H : (if t305 = true then (laws_FnExactFindLines.j0 k l0 a1 t294 t295 t298 t301 t302 (t302 != t295)) else (laws_FnExactFindLines.j0 k l0 a1 t294 t295 t298 t301 t302 true)) = some r := H
        have A17 := Aside0.mk A170
        clear A170
        by_cases c18 : t305 = true
        · subst c18
          have H1 : (laws_FnExactFindLines.j0 k l0 a1 t294 t295 t298 t301 t302 (t302 != t295)) = some r := by rw [if_pos rfl] at H; exact H
          clear H
          have H := H1
          clear H1
          have H' := Aside0.mk H
          clear H
          obtain ⟨Ao19, co19, eo19⟩ := Kd.R_slice HO304.out
          subst eo19
          obtain ⟨Ao20, co20, eo20⟩ := Kd.R_slice HO297.out
          subst eo20
          go_wp2_with (first | ((with_reducible refine gate_callee (f := 41) rfl ?_); refine goesL_ (some 41) rfl rfl Try.func41 (by kernel_rfl) rfl #[.slice Ao19 t301.length co19, .slice Ao20 t294.length co20] rfl (by (try simp only [List.map_toArray, List.map_cons, List.map_nil]); first | done | rfl | (simp only [List.length_drop, List.length_take]; rfl)) ?_; (with_reducible refine (laws_eqInt64S.calls k _ _ t301 _ _ t294 true _ ?side1 ?side2 ?side3 ?side4 A17.out).mono ?_); (case side1 => repeat (first | exact (Kd.R_reads' HO304.out).2.2 | (with_reducible refine Kd.C_alloc ?_ _) | (with_reducible refine Kd.C_drewN ?_ _) | (with_reducible refine Kd.C_drew ?_))); (case side2 => exact (Kd.R_reads' HO304.out).2.1); (case side3 => repeat (first | exact (Kd.R_reads' HO297.out).2.2 | (with_reducible refine Kd.C_alloc ?_ _) | (with_reducible refine Kd.C_drewN ?_ _) | (with_reducible refine Kd.C_drew ?_))); (case side4 => exact (Kd.R_reads' HO297.out).2.1); rintro e w' ⟨rfl, ⟨nd, rfl⟩⟩; refine ⟨_, rfl, ?_⟩))
          go_meet
          case rel => exact ⟨_, ((t302 != t295)), (by first | rfl | (simp; done) | (simp [*]; done)), H', ⟨by first | omega | exact Nat.le_refl _⟩, ⟨by (with_reducible repeat (first | apply Kd.R_alloc | apply Kd.R_drewN | apply Kd.R_drew)); exact Kd.R_mono HO297.out (fun _ hk => hk.2)⟩, ⟨by (with_reducible repeat (first | apply Kd.R_alloc | apply Kd.R_drewN | apply Kd.R_drew)); exact Kd.R_mono HO300.out (fun _ hk => trivial)⟩, ⟨by (with_reducible repeat (first | apply Kd.R_alloc | apply Kd.R_drewN | apply Kd.R_drew)); exact Kd.R_mono HO304.out (fun _ hk => hk.2)⟩, ⟨by repeat (first | (with_reducible first | exact HB.out | apply below_alloc | apply pw_below_drewN | apply below_drew1) | exact HB.out)⟩⟩
        · replace c18 := Bool.eq_false_iff.mpr c18
          subst c18
          have H1 : (laws_FnExactFindLines.j0 k l0 a1 t294 t295 t298 t301 t302 true) = some r := by rw [if_neg (show ¬ (false = true) by decide)] at H; exact H
          clear H
          have H := H1
          clear H1
          have H' := Aside0.mk H
          clear H
          obtain ⟨Ao21, co21, eo21⟩ := Kd.R_slice HO304.out
          subst eo21
          obtain ⟨Ao22, co22, eo22⟩ := Kd.R_slice HO297.out
          subst eo22
          go_wp2_with (first | ((with_reducible refine gate_callee (f := 41) rfl ?_); refine goesL_ (some 41) rfl rfl Try.func41 (by kernel_rfl) rfl #[.slice Ao21 t301.length co21, .slice Ao22 t294.length co22] rfl (by (try simp only [List.map_toArray, List.map_cons, List.map_nil]); first | done | rfl | (simp only [List.length_drop, List.length_take]; rfl)) ?_; (with_reducible refine (laws_eqInt64S.calls k _ _ t301 _ _ t294 false _ ?side1 ?side2 ?side3 ?side4 A17.out).mono ?_); (case side1 => repeat (first | exact (Kd.R_reads' HO304.out).2.2 | (with_reducible refine Kd.C_alloc ?_ _) | (with_reducible refine Kd.C_drewN ?_ _) | (with_reducible refine Kd.C_drew ?_))); (case side2 => exact (Kd.R_reads' HO304.out).2.1); (case side3 => repeat (first | exact (Kd.R_reads' HO297.out).2.2 | (with_reducible refine Kd.C_alloc ?_ _) | (with_reducible refine Kd.C_drewN ?_ _) | (with_reducible refine Kd.C_drew ?_))); (case side4 => exact (Kd.R_reads' HO297.out).2.1); rintro e w' ⟨rfl, ⟨nd, rfl⟩⟩; refine ⟨_, rfl, ?_⟩))
          go_meet
          case rel => exact ⟨_, (true), (by first | rfl | (simp; done) | (simp [*]; done)), H', ⟨by first | omega | exact Nat.le_refl _⟩, ⟨by (with_reducible repeat (first | apply Kd.R_alloc | apply Kd.R_drewN | apply Kd.R_drew)); exact Kd.R_mono HO297.out (fun _ hk => hk.2)⟩, ⟨by (with_reducible repeat (first | apply Kd.R_alloc | apply Kd.R_drewN | apply Kd.R_drew)); exact Kd.R_mono HO300.out (fun _ hk => trivial)⟩, ⟨by (with_reducible repeat (first | apply Kd.R_alloc | apply Kd.R_drewN | apply Kd.R_drew)); exact Kd.R_mono HO304.out (fun _ hk => hk.2)⟩, ⟨by repeat (first | (with_reducible first | exact HB.out | apply below_alloc | apply pw_below_drewN | apply below_drew1) | exact HB.out)⟩⟩
      case rest =>
        clear HC10
        try clear c1
        try clear c2
        try clear p2
        try clear c3
        try clear c3b0
        try clear c3b1
        try clear c4
        try clear c5
        try clear c5b0
        try clear c6
        try clear c14
        try clear c18
        try clear c21
        obtain ⟨kq, x47_9, rfl, HA, HJ9, HO_6, HO_8, HO_9, HB⟩ := hcut
        cases kq with
        | zero => exact absurd HA.out (by simp [laws_FnExactFindLines.j0])
        | succ kj9 =>
          have H := HA.out
          clear HA
          simp only [laws_FnExactFindLines.j0] at H
          by_cases c23 : x47_9 = true
          · subst c23
            have H1 : (some false) = some r := by rw [if_pos rfl] at H; exact H
            clear H
            have H := H1
            clear H1
            obtain rfl := Option.some.inj H
            go_wp2
            go_ret
            exact ⟨by first | rfl | (simp [errW_none, errW_some] <;> rfl) | (simp [*, errW_none, errW_some] <;> rfl), by repeat (first | (with_reducible first | exact HB.out | apply below_alloc | apply pw_below_drewN | apply below_drew1) | exact HB.out)⟩
          · replace c23 := Bool.eq_false_iff.mpr c23
            subst c23
            have H1 : ((laws_toStringS.f kj9 l0).bind fun t306 => ((laws_eqStringS.f kj9 t298 t306).bind fun t309 => (if t309 = true then ((laws_markStringS.f kj9 t298 1).bind fun bt310 => (if bt310.1 < 0 then (laws_FnExactFindLines.j1 kj9 l0 a1 t294 t295 t301 true) else ((laws_eqInt64S.f kj9 t301 t294).bind fun t312 => (if t312 = true then (laws_FnExactFindLines.j1 kj9 l0 a1 t294 t295 t301 (t302 != t295)) else (laws_FnExactFindLines.j1 kj9 l0 a1 t294 t295 t301 true))))) else (some false)))) = some r := by rw [if_neg (show ¬ (false = true) by decide)] at H; exact H
            clear H
            have H := H1
            clear H1
            replace H := Option.bind_eq_some_iff.mp H
            obtain ⟨t306, A240, H⟩ := H
            replace H : ((laws_eqStringS.f kj9 t298 t306).bind fun t309 => (if t309 = true then ((laws_markStringS.f kj9 t298 1).bind fun bt310 => (if bt310.1 < 0 then (laws_FnExactFindLines.j1 kj9 l0 a1 t294 t295 t301 true) else ((laws_eqInt64S.f kj9 t301 t294).bind fun t312 => (if t312 = true then (laws_FnExactFindLines.j1 kj9 l0 a1 t294 t295 t301 (t302 != t295)) else (laws_FnExactFindLines.j1 kj9 l0 a1 t294 t295 t301 true))))) else (some false))) = some r := H
            have A24 := Aside0.mk A240
            clear A240
            replace H := Option.bind_eq_some_iff.mp H
            obtain ⟨t309, A250, H⟩ := H
            replace H : (if t309 = true then ((laws_markStringS.f kj9 t298 1).bind fun bt310 => (if bt310.1 < 0 then (laws_FnExactFindLines.j1 kj9 l0 a1 t294 t295 t301 true) else ((laws_eqInt64S.f kj9 t301 t294).bind fun t312 => (if t312 = true then (laws_FnExactFindLines.j1 kj9 l0 a1 t294 t295 t301 (t302 != t295)) else (laws_FnExactFindLines.j1 kj9 l0 a1 t294 t295 t301 true))))) else (some false)) = some r := H
            have A25 := Aside0.mk A250
            clear A250
            by_cases c26 : t309 = true
            · subst c26
              have H1 : ((laws_markStringS.f kj9 t298 1).bind fun bt310 => (if bt310.1 < 0 then (laws_FnExactFindLines.j1 kj9 l0 a1 t294 t295 t301 true) else ((laws_eqInt64S.f kj9 t301 t294).bind fun t312 => (if t312 = true then (laws_FnExactFindLines.j1 kj9 l0 a1 t294 t295 t301 (t302 != t295)) else (laws_FnExactFindLines.j1 kj9 l0 a1 t294 t295 t301 true))))) = some r := by rw [if_pos rfl] at H; exact H
              clear H
              have H := H1
              clear H1
              replace H := Option.bind_eq_some_iff.mp H
              obtain ⟨⟨t310, t311⟩, A270, H⟩ := H
              replace H : (if t310 < 0 then (laws_FnExactFindLines.j1 kj9 l0 a1 t294 t295 t301 true) else ((laws_eqInt64S.f kj9 t301 t294).bind fun t312 => (if t312 = true then (laws_FnExactFindLines.j1 kj9 l0 a1 t294 t295 t301 (t302 != t295)) else (laws_FnExactFindLines.j1 kj9 l0 a1 t294 t295 t301 true)))) = some r := H
              have A27 := Aside0.mk A270
              clear A270
              have HC28 := Aside0.mk H
              clear H
              go_upto_region 16 with (first | ((with_reducible refine gate_callee (f := 23) rfl ?_); refine goesL_ (some 50) rfl rfl Try.func23 (by kernel_rfl) rfl #[.slice A0 l0.length c0] rfl (by (try simp only [List.map_toArray, List.map_cons, List.map_nil]); first | done | rfl | (simp only [List.length_drop, List.length_take]; rfl)) ?_; (with_reducible refine (laws_toStringS.calls kj9 _ _ l0 t306 _ ?side1 ?side2 A24.out).mono ?_); (case side1 => repeat (first | exact (Kd.C_below HR0.out HB.out) | (with_reducible refine Kd.C_alloc ?_ _) | (with_reducible refine Kd.C_drewN ?_ _) | (with_reducible refine Kd.C_drew ?_))); (case side2 => exact HC0.out); rintro e w29 ⟨v307, rfl, ho0, hb⟩; refine ⟨_, rfl, ?_⟩; have n0_ := Aside0.mk (Kd.R_below (by (with_reducible repeat (first | apply Kd.R_alloc | apply Kd.R_drewN | apply Kd.R_drew)); exact HO_6.out) hb); have n1_ := Aside0.mk (Kd.R_elder' (by (with_reducible repeat (first | apply Kd.R_alloc | apply Kd.R_drewN | apply Kd.R_drew)); exact HO_8.out) (Kd.R_base ho0) hb); have n2_ := Aside0.mk (Kd.R_below (by (with_reducible repeat (first | apply Kd.R_alloc | apply Kd.R_drewN | apply Kd.R_drew)); exact HO_9.out) hb); have n3_ := Aside0.mk (Kd.R_lower (Kd.R_new' ho0 (Kd.R_lt (by (with_reducible repeat (first | apply Kd.R_alloc | apply Kd.R_drewN | apply Kd.R_drew)); exact HO_8.out))) (below_size (by repeat (first | (with_reducible first | exact HB.out | apply below_alloc | apply pw_below_drewN | apply below_drew1) | exact HB.out)))); have n4_ := Aside0.mk (below_step (by repeat (first | (with_reducible first | exact HB.out | apply below_alloc | apply pw_below_drewN | apply below_drew1) | exact HB.out)) hb); clear HO_6; clear HO_8; clear HO_9; clear HB; have HO_6 := n0_; have HO_8 := n1_; have HO_9 := n2_; have HO308 := n3_; have HB := n4_; clear n0_ n1_ n2_ n3_ n4_; (try clear hb); (try clear hb2); (try clear hk); (try clear hi); (try clear ho0); obtain ⟨Ao30, co30, eo30⟩ := Kd.R_slice HO308.out; subst eo30) | ((with_reducible refine gate_callee (f := 25) rfl ?_); refine goesL_ (some 51) rfl rfl Try.func25 (by kernel_rfl) rfl #[.slice Ao15 t298.length co15, .slice Ao30 t306.length co30] rfl (by (try simp only [List.map_toArray, List.map_cons, List.map_nil]); first | done | rfl | (simp only [List.length_drop, List.length_take]; rfl)) ?_; (with_reducible refine (laws_eqStringS.calls kj9 _ _ t298 _ _ t306 true _ ?side1 ?side2 ?side3 ?side4 A25.out).mono ?_); (case side1 => repeat (first | exact (Kd.R_reads' HO_8.out).2.2 | (with_reducible refine Kd.C_alloc ?_ _) | (with_reducible refine Kd.C_drewN ?_ _) | (with_reducible refine Kd.C_drew ?_))); (case side2 => exact (Kd.R_reads' HO_8.out).2.1); (case side3 => repeat (first | exact (Kd.R_reads' HO308.out).2.2 | (with_reducible refine Kd.C_alloc ?_ _) | (with_reducible refine Kd.C_drewN ?_ _) | (with_reducible refine Kd.C_drew ?_))); (case side4 => exact (Kd.R_reads' HO308.out).2.1); rintro e w' ⟨rfl, ⟨nd, rfl⟩⟩; refine ⟨_, rfl, ?_⟩) | ((with_reducible refine gate_callee (f := 62) rfl ?_); refine goesL_ (some 55) rfl rfl Try.func62 (by kernel_rfl) rfl #[.slice Ao15 t298.length co15, .int .i64 1] rfl (by (try simp only [List.map_toArray, List.map_cons, List.map_nil]); first | done | rfl | (simp only [List.length_drop, List.length_take]; rfl)) ?_; (with_reducible refine (laws_markStringS.calls kj9 (fun k_ => some k_ = (.slice Ao15 t298.length co15 : Value).ownBlock) (.slice Ao15 t298.length co15) t298 1 t310 t311 w _ ?side1 ?side2 A27.out).mono ?_); (case side1 => repeat (first | (with_reducible first | exact HB.out | apply below_alloc | apply pw_below_drewN | apply below_drew1) | exact HB.out)); (case side2 => exact Kd.R_tight rfl HO_8.out); rintro e w31 ⟨rfl, hy0, hb, hkp⟩; refine ⟨_, rfl, ?_⟩; have n0_ := Aside0.mk (Kd.R_mono (ok' := fun k_ => some k_ ≠ (v303 : Value).ownBlock) (Kd.R_keptB ((Kd.R_apart' HO_6.out (Kd.R_typed HO_8.out) (by decide))) hkp (fun k_ hk_ hs_ => (hk_.2) hs_)) (fun k_ hk_ => hk_.1.1)); have n1_ := Aside0.mk (Kd.R_reok rfl hy0 (fun k_ e_ => HO_8.out.1 k_ e_)); have n2_ := Aside0.mk (Kd.R_mono (ok' := fun k_ => some k_ ≠ (v296 : Value).ownBlock) (Kd.R_keptB ((Kd.R_apart' HO_9.out (Kd.R_typed HO_8.out) (by decide))) hkp (fun k_ hk_ hs_ => (hk_.2) hs_)) (fun k_ hk_ => hk_.1.1)); have n3_ := Aside0.mk (Kd.R_mono (ok' := fun k_ => some k_ ≠ (.slice Ao15 t298.length co15 : Value).ownBlock) (Kd.R_keptB (HO308.out) hkp (fun k_ hk_ hs_ => (hk_.2) hs_)) (fun k_ hk_ => hk_.1.2)); have n4_ := Aside0.mk (hb); clear HO_6; clear HO_8; clear HO_9; clear HO308; clear HB; have HO_6 := n0_; have HO_8 := n1_; have HO_9 := n2_; have HO308 := n3_; have HB := n4_; clear n0_ n1_ n2_ n3_ n4_; (try clear hb); (try clear hkp); (try clear hy0)))
              (try simp only [Act.put, List.setIfInBounds_toArray, List.set_cons_zero, List.set_cons_succ])
              go_cut [68] (fun v68 wc => ∃ (kq : Nat) (x68_27 : Bool), v68 = .bool x68_27 ∧ Aside0 (laws_FnExactFindLines.j1 kq l0 a1 t294 t295 t301 x68_27 = some r) ∧ Aside0 (kq ≤ kj9) ∧ Aside0 (Kd.R (Kd.int .i64) 2 wc w.heap.size (fun k_ => some k_ ≠ (v303 : Value).ownBlock) v296 t294) ∧ Aside0 (Kd.R (Kd.int .i64) 2 wc w.heap.size (fun k_ => some k_ ≠ (v296 : Value).ownBlock) v303 t301) ∧ Aside0 (Below w.heap.size w wc))
              case first =>
                have H := HC28.out
                clear HC28
                by_cases c32 : t310 < 0
                · rw [if_pos c32] at H
                  have c32b0 : decide (t310 < 0) = true := decide_eq_true c32
                  clear c32
                  (first | rw [c32b0] | (simp only [i64_w, i32_w]; rw [c32b0]) | skip)
                  have H' := Aside0.mk H
                  clear H
                  go_wp2
                  go_meet
                  case rel => exact ⟨_, (true), (by first | rfl | (simp; done) | (simp [*]; done)), H', ⟨by have := HJ9.out; first | omega | exact Nat.le_refl _⟩, ⟨by (with_reducible repeat (first | apply Kd.R_alloc | apply Kd.R_drewN | apply Kd.R_drew)); exact HO_6.out⟩, ⟨by (with_reducible repeat (first | apply Kd.R_alloc | apply Kd.R_drewN | apply Kd.R_drew)); exact HO_9.out⟩, ⟨by repeat (first | (with_reducible first | exact HB.out | apply below_alloc | apply pw_below_drewN | apply below_drew1) | exact HB.out)⟩⟩
                · rw [if_neg c32] at H
                  have c32b0 : decide (t310 < 0) = false := decide_eq_false c32
                  clear c32
                  (first | rw [c32b0] | (simp only [i64_w, i32_w]; rw [c32b0]) | skip)
                  replace H := Option.bind_eq_some_iff.mp H
                  obtain ⟨t312, A330, H⟩ := H
                  replace H : (if t312 = true then (laws_FnExactFindLines.j1 kj9 l0 a1 t294 t295 t301 (t302 != t295)) else (laws_FnExactFindLines.j1 kj9 l0 a1 t294 t295 t301 true)) = some r := H
                  have A33 := Aside0.mk A330
                  clear A330
                  by_cases c34 : t312 = true
                  · subst c34
                    have H1 : (laws_FnExactFindLines.j1 kj9 l0 a1 t294 t295 t301 (t302 != t295)) = some r := by rw [if_pos rfl] at H; exact H
                    clear H
                    have H := H1
                    clear H1
                    have H' := Aside0.mk H
                    clear H
                    obtain ⟨Ao35, co35, eo35⟩ := Kd.R_slice HO_9.out
                    subst eo35
                    obtain ⟨Ao36, co36, eo36⟩ := Kd.R_slice HO_6.out
                    subst eo36
                    go_wp2_with (first | (go_at_call 41; (with_reducible refine (laws_eqInt64S.calls kj9 _ _ t301 _ _ t294 true _ ?side1 ?side2 ?side3 ?side4 A33.out).mono ?_); (case side1 => repeat (first | exact (Kd.R_reads' HO_9.out).2.2 | (with_reducible refine Kd.C_alloc ?_ _) | (with_reducible refine Kd.C_drewN ?_ _) | (with_reducible refine Kd.C_drew ?_))); (case side2 => exact (Kd.R_reads' HO_9.out).2.1); (case side3 => repeat (first | exact (Kd.R_reads' HO_6.out).2.2 | (with_reducible refine Kd.C_alloc ?_ _) | (with_reducible refine Kd.C_drewN ?_ _) | (with_reducible refine Kd.C_drew ?_))); (case side4 => exact (Kd.R_reads' HO_6.out).2.1); rintro e w' ⟨rfl, ⟨nd, rfl⟩⟩))
                    go_meet
                    case rel => exact ⟨_, ((t302 != t295)), (by first | rfl | (simp; done) | (simp [*]; done)), H', ⟨by have := HJ9.out; first | omega | exact Nat.le_refl _⟩, ⟨by (with_reducible repeat (first | apply Kd.R_alloc | apply Kd.R_drewN | apply Kd.R_drew)); exact HO_6.out⟩, ⟨by (with_reducible repeat (first | apply Kd.R_alloc | apply Kd.R_drewN | apply Kd.R_drew)); exact HO_9.out⟩, ⟨by repeat (first | (with_reducible first | exact HB.out | apply below_alloc | apply pw_below_drewN | apply below_drew1) | exact HB.out)⟩⟩
                  · replace c34 := Bool.eq_false_iff.mpr c34
                    subst c34
                    have H1 : (laws_FnExactFindLines.j1 kj9 l0 a1 t294 t295 t301 true) = some r := by rw [if_neg (show ¬ (false = true) by decide)] at H; exact H
                    clear H
                    have H := H1
                    clear H1
                    have H' := Aside0.mk H
                    clear H
                    obtain ⟨Ao37, co37, eo37⟩ := Kd.R_slice HO_9.out
                    subst eo37
                    obtain ⟨Ao38, co38, eo38⟩ := Kd.R_slice HO_6.out
                    subst eo38
                    go_wp2_with (first | (go_at_call 41; (with_reducible refine (laws_eqInt64S.calls kj9 _ _ t301 _ _ t294 false _ ?side1 ?side2 ?side3 ?side4 A33.out).mono ?_); (case side1 => repeat (first | exact (Kd.R_reads' HO_9.out).2.2 | (with_reducible refine Kd.C_alloc ?_ _) | (with_reducible refine Kd.C_drewN ?_ _) | (with_reducible refine Kd.C_drew ?_))); (case side2 => exact (Kd.R_reads' HO_9.out).2.1); (case side3 => repeat (first | exact (Kd.R_reads' HO_6.out).2.2 | (with_reducible refine Kd.C_alloc ?_ _) | (with_reducible refine Kd.C_drewN ?_ _) | (with_reducible refine Kd.C_drew ?_))); (case side4 => exact (Kd.R_reads' HO_6.out).2.1); rintro e w' ⟨rfl, ⟨nd, rfl⟩⟩))
                    go_meet
                    case rel => exact ⟨_, (true), (by first | rfl | (simp; done) | (simp [*]; done)), H', ⟨by have := HJ9.out; first | omega | exact Nat.le_refl _⟩, ⟨by (with_reducible repeat (first | apply Kd.R_alloc | apply Kd.R_drewN | apply Kd.R_drew)); exact HO_6.out⟩, ⟨by (with_reducible repeat (first | apply Kd.R_alloc | apply Kd.R_drewN | apply Kd.R_drew)); exact HO_9.out⟩, ⟨by repeat (first | (with_reducible first | exact HB.out | apply below_alloc | apply pw_below_drewN | apply below_drew1) | exact HB.out)⟩⟩
              case rest =>
                clear HC28
                try clear c1
                try clear c2
                try clear p2
                try clear c3
                try clear c3b0
                try clear c3b1
                try clear c4
                try clear c5
                try clear c5b0
                try clear c6
                try clear c14
                try clear c18
                try clear c21
                try clear c23
                try clear c25
                try clear c26
                try clear c32
                try clear c32b0
                try clear c34
                try clear p2
                obtain ⟨kq, x68_27, rfl, HA, HJ27, HO_6, HO_9, HB⟩ := hcut
                cases kq with
                | zero => exact absurd HA.out (by simp [laws_FnExactFindLines.j1])
                | succ kj27 =>
                  have H := HA.out
                  clear HA
                  simp only [laws_FnExactFindLines.j1] at H
                  by_cases c39 : x68_27 = true
                  · subst c39
                    have H1 : (some false) = some r := by rw [if_pos rfl] at H; exact H
                    clear H
                    have H := H1
                    clear H1
                    obtain rfl := Option.some.inj H
                    go_wp2
                    go_ret
                    exact ⟨by first | rfl | (simp [errW_none, errW_some] <;> rfl) | (simp [*, errW_none, errW_some] <;> rfl), by repeat (first | (with_reducible first | exact HB.out | apply below_alloc | apply pw_below_drewN | apply below_drew1) | exact HB.out)⟩
                  · replace c39 := Bool.eq_false_iff.mpr c39
                    subst c39
                    have H1 : ((laws_markInt64S.f kj27 t301 1).bind fun bt313 => ((laws_heldInt64S.f kj27 bt313.2 1).bind fun t315 => (if t315 < 0 then (some false) else (if t315 = bt313.1 then ((laws_toStringS.f kj27 l0).bind fun t316 => ((impl_FindLines.f kj27 t316 a1).bind fun bt319 => ((laws_eqInt64S.f kj27 bt319.1 t294).bind fun t323 => (if t323 = true then (laws_FnExactFindLines.j2 kj27 bt313.2 bt313.1 (bt319.2 != t295)) else (laws_FnExactFindLines.j2 kj27 bt313.2 bt313.1 true))))) else (some false))))) = some r := by rw [if_neg (show ¬ (false = true) by decide)] at H; exact H
                    clear H
                    have H := H1
                    clear H1
                    replace H := Option.bind_eq_some_iff.mp H
                    obtain ⟨⟨t313, t314⟩, A400, H⟩ := H
                    replace H : ((laws_heldInt64S.f kj27 t314 1).bind fun t315 => (if t315 < 0 then (some false) else (if t315 = t313 then ((laws_toStringS.f kj27 l0).bind fun t316 => ((impl_FindLines.f kj27 t316 a1).bind fun bt319 => ((laws_eqInt64S.f kj27 bt319.1 t294).bind fun t323 => (if t323 = true then (laws_FnExactFindLines.j2 kj27 t314 t313 (bt319.2 != t295)) else (laws_FnExactFindLines.j2 kj27 t314 t313 true))))) else (some false)))) = some r := H
                    have A40 := Aside0.mk A400
                    clear A400
                    replace H := Option.bind_eq_some_iff.mp H
                    obtain ⟨t315, A410, H⟩ := H
                    replace H : (if t315 < 0 then (some false) else (if t315 = t313 then ((laws_toStringS.f kj27 l0).bind fun t316 => ((impl_FindLines.f kj27 t316 a1).bind fun bt319 => ((laws_eqInt64S.f kj27 bt319.1 t294).bind fun t323 => (if t323 = true then (laws_FnExactFindLines.j2 kj27 t314 t313 (bt319.2 != t295)) else (laws_FnExactFindLines.j2 kj27 t314 t313 true))))) else (some false))) = some r := H
                    have A41 := Aside0.mk A410
                    clear A410
                    by_cases c42 : t315 < 0
                    · rw [if_pos c42] at H
                      have c42b0 : decide (t315 < 0) = true := decide_eq_true c42
                      clear c42
                      obtain rfl := Option.some.inj H
                      obtain ⟨Ao43, co43, eo43⟩ := Kd.R_slice HO_9.out
                      subst eo43
                      go_wp2_with (first | ((with_reducible refine gate_callee (f := 44) rfl ?_); refine goesL_ (some 71) rfl rfl Try.func44 (by kernel_rfl) rfl #[.slice Ao43 t301.length co43, .int .i64 1] rfl (by (try simp only [List.map_toArray, List.map_cons, List.map_nil]); first | done | rfl | (simp only [List.length_drop, List.length_take]; rfl)) ?_; (with_reducible refine (laws_markInt64S.calls kj27 (fun k_ => some k_ = (.slice Ao43 t301.length co43 : Value).ownBlock) (.slice Ao43 t301.length co43) t301 1 t313 t314 w _ ?side1 ?side2 A40.out).mono ?_); (case side1 => repeat (first | (with_reducible first | exact HB.out | apply below_alloc | apply pw_below_drewN | apply below_drew1) | exact HB.out)); (case side2 => exact Kd.R_tight rfl HO_9.out); rintro e w44 ⟨rfl, hy0, hb, hkp⟩; refine ⟨_, rfl, ?_⟩; have n0_ := Aside0.mk (Kd.R_mono (ok' := fun k_ => some k_ ≠ (.slice Ao43 t301.length co43 : Value).ownBlock) (Kd.R_keptB (HO_6.out) hkp (fun k_ hk_ hs_ => (hk_) hs_)) (fun k_ hk_ => hk_.1)); have n1_ := Aside0.mk (Kd.R_reok rfl hy0 (fun k_ e_ => HO_9.out.1 k_ e_)); have n2_ := Aside0.mk (hb); clear HO_6; clear HO_9; clear HB; have HO_6 := n0_; have HO_9 := n1_; have HB := n2_; clear n0_ n1_ n2_; (try clear hb); (try clear hkp); (try clear hy0)) | ((with_reducible refine gate_callee (f := 45) rfl ?_); refine goesL_ (some 74) rfl rfl Try.func45 (by kernel_rfl) rfl #[.slice Ao43 t314.length co43, .int .i64 1] rfl (by (try simp only [List.map_toArray, List.map_cons, List.map_nil]); first | done | (rw [show t314.length = t301.length from (Kd.R_reads' HO_9.out).1.symm] <;> rfl) | rfl | (simp only [List.length_drop, List.length_take]; rfl)) ?_; (with_reducible refine (laws_heldInt64S.calls kj27 _ _ t314 1 t315 _ ?side1 ?side2 A41.out).mono ?_); (case side1 => repeat (first | exact (Kd.R_reads' HO_9.out).2.2 | (with_reducible refine Kd.C_alloc ?_ _) | (with_reducible refine Kd.C_drewN ?_ _) | (with_reducible refine Kd.C_drew ?_))); (case side2 => rw [show t314.length = t301.length from (Kd.R_reads' HO_9.out).1.symm]; exact (Kd.R_reads' HO_9.out).2.1); rintro e w' ⟨rfl, ⟨nd, rfl⟩⟩; refine ⟨_, rfl, ?_⟩))
                      go_ret
                      exact ⟨by first | rfl | (simp [errW_none, errW_some] <;> rfl) | (simp [*, errW_none, errW_some] <;> rfl), by repeat (first | (with_reducible first | exact HB.out | apply below_alloc | apply pw_below_drewN | apply below_drew1) | exact HB.out)⟩
                    · rw [if_neg c42] at H
                      have c42b0 : decide (t315 < 0) = false := decide_eq_false c42
                      clear c42
                      by_cases c45 : t315 = t313
                      · rw [if_pos c45] at H
                        have c45b0 : (t315 == t313) = true := beq_iff_eq.mpr c45
                        have c45b1 : (t315 != t313) = false := bne_eq_false_iff_eq.mpr c45
                        clear c45
                        replace H := Option.bind_eq_some_iff.mp H
                        obtain ⟨t316, A460, H⟩ := H
                        replace H : ((impl_FindLines.f kj27 t316 a1).bind fun bt319 => ((laws_eqInt64S.f kj27 bt319.1 t294).bind fun t323 => (if t323 = true then (laws_FnExactFindLines.j2 kj27 t314 t313 (bt319.2 != t295)) else (laws_FnExactFindLines.j2 kj27 t314 t313 true)))) = some r := H
                        have A46 := Aside0.mk A460
                        clear A460
                        replace H := Option.bind_eq_some_iff.mp H
                        obtain ⟨⟨t319, t320⟩, A470, H⟩ := H
                        replace H : ((laws_eqInt64S.f kj27 t319 t294).bind fun t323 => (if t323 = true then (laws_FnExactFindLines.j2 kj27 t314 t313 (t320 != t295)) else (laws_FnExactFindLines.j2 kj27 t314 t313 true))) = some r := H
                        have A47 := Aside0.mk A470
                        clear A470
                        have HC48 := Aside0.mk H
                        clear H
                        obtain ⟨Ao49, co49, eo49⟩ := Kd.R_slice HO_9.out
                        subst eo49
                        go_upto_region 27 with (first | ((with_reducible refine gate_callee (f := 44) rfl ?_); refine goesL_ (some 71) rfl rfl Try.func44 (by kernel_rfl) rfl #[.slice Ao49 t301.length co49, .int .i64 1] rfl (by (try simp only [List.map_toArray, List.map_cons, List.map_nil]); first | done | rfl | (simp only [List.length_drop, List.length_take]; rfl)) ?_; (with_reducible refine (laws_markInt64S.calls kj27 (fun k_ => some k_ = (.slice Ao49 t301.length co49 : Value).ownBlock) (.slice Ao49 t301.length co49) t301 1 t313 t314 w _ ?side1 ?side2 A40.out).mono ?_); (case side1 => repeat (first | (with_reducible first | exact HB.out | apply below_alloc | apply pw_below_drewN | apply below_drew1) | exact HB.out)); (case side2 => exact Kd.R_tight rfl HO_9.out); rintro e w50 ⟨rfl, hy0, hb, hkp⟩; refine ⟨_, rfl, ?_⟩; have n0_ := Aside0.mk (Kd.R_mono (ok' := fun k_ => some k_ ≠ (.slice Ao49 t301.length co49 : Value).ownBlock) (Kd.R_keptB (HO_6.out) hkp (fun k_ hk_ hs_ => (hk_) hs_)) (fun k_ hk_ => hk_.1)); have n1_ := Aside0.mk (Kd.R_reok rfl hy0 (fun k_ e_ => HO_9.out.1 k_ e_)); have n2_ := Aside0.mk (hb); clear HO_6; clear HO_9; clear HB; have HO_6 := n0_; have HO_9 := n1_; have HB := n2_; clear n0_ n1_ n2_; (try clear hb); (try clear hkp); (try clear hy0)) | ((with_reducible refine gate_callee (f := 45) rfl ?_); refine goesL_ (some 74) rfl rfl Try.func45 (by kernel_rfl) rfl #[.slice Ao49 t314.length co49, .int .i64 1] rfl (by (try simp only [List.map_toArray, List.map_cons, List.map_nil]); first | done | (rw [show t314.length = t301.length from (Kd.R_reads' HO_9.out).1.symm] <;> rfl) | rfl | (simp only [List.length_drop, List.length_take]; rfl)) ?_; (with_reducible refine (laws_heldInt64S.calls kj27 _ _ t314 1 t315 _ ?side1 ?side2 A41.out).mono ?_); (case side1 => repeat (first | exact (Kd.R_reads' HO_9.out).2.2 | (with_reducible refine Kd.C_alloc ?_ _) | (with_reducible refine Kd.C_drewN ?_ _) | (with_reducible refine Kd.C_drew ?_))); (case side2 => rw [show t314.length = t301.length from (Kd.R_reads' HO_9.out).1.symm]; exact (Kd.R_reads' HO_9.out).2.1); rintro e w' ⟨rfl, ⟨nd, rfl⟩⟩; refine ⟨_, rfl, ?_⟩) | ((with_reducible refine gate_callee (f := 23) rfl ?_); refine goesL_ (some 82) rfl rfl Try.func23 (by kernel_rfl) rfl #[.slice A0 l0.length c0] rfl (by (try simp only [List.map_toArray, List.map_cons, List.map_nil]); first | done | rfl | (simp only [List.length_drop, List.length_take]; rfl)) ?_; (with_reducible refine (laws_toStringS.calls kj27 _ _ l0 t316 _ ?side1 ?side2 A46.out).mono ?_); (case side1 => repeat (first | exact (Kd.C_below HR0.out (by repeat (first | (with_reducible first | exact HB.out | apply below_alloc | apply pw_below_drewN | apply below_drew1) | exact HB.out))) | (with_reducible refine Kd.C_alloc ?_ _) | (with_reducible refine Kd.C_drewN ?_ _) | (with_reducible refine Kd.C_drew ?_))); (case side2 => exact HC0.out); rintro e w51 ⟨v317, rfl, ho0, hb⟩; refine ⟨_, rfl, ?_⟩; have n0_ := Aside0.mk (Kd.R_below (by (with_reducible repeat (first | apply Kd.R_alloc | apply Kd.R_drewN | apply Kd.R_drew)); exact HO_6.out) hb); have n1_ := Aside0.mk (Kd.R_below (by (with_reducible repeat (first | apply Kd.R_alloc | apply Kd.R_drewN | apply Kd.R_drew)); exact HO_9.out) hb); have n2_ := Aside0.mk (Kd.R_lower ho0 (below_size (by repeat (first | (with_reducible first | exact HB.out | apply below_alloc | apply pw_below_drewN | apply below_drew1) | exact HB.out)))); have n3_ := Aside0.mk (below_step (by repeat (first | (with_reducible first | exact HB.out | apply below_alloc | apply pw_below_drewN | apply below_drew1) | exact HB.out)) hb); clear HO_6; clear HO_9; clear HB; have HO_6 := n0_; have HO_9 := n1_; have HO318 := n2_; have HB := n3_; clear n0_ n1_ n2_ n3_; (try clear hb); (try clear hb2); (try clear hk); (try clear hi); (try clear ho0); obtain ⟨Ao52, co52, eo52⟩ := Kd.R_slice HO318.out; subst eo52) | ((with_reducible refine gate_callee (f := 66) rfl ?_); refine goesL_ (some 84) rfl rfl Try.func66 (by kernel_rfl) rfl #[.slice Ao52 t316.length co52, .string a1] rfl (by (try simp only [List.map_toArray, List.map_cons, List.map_nil]); first | done | rfl | (simp only [List.length_drop, List.length_take]; rfl)) ?_; (with_reducible refine (impl_FindLines.calls kj27 _ _ t316 a1 t319 t320 _ ?side1 ?side2 ?side3 A47.out).mono ?_); (case side1 => repeat (first | exact (Kd.R_reads' HO318.out).2.2 | (with_reducible refine Kd.C_alloc ?_ _) | (with_reducible refine Kd.C_drewN ?_ _) | (with_reducible refine Kd.C_drew ?_))); (case side2 => exact (Kd.R_reads' HO318.out).2.1); (case side3 => exact HSH.out.keptBut ((show Below w.heap.size w _ from by repeat (first | (with_reducible first | exact HB.out | apply below_alloc | apply pw_below_drewN | apply below_drew1) | exact HB.out)).frame (fun _ => False)) (fun _ h_ => h_.elim)); rintro e w53 ⟨v321, rfl, ho0, hb⟩; refine ⟨_, rfl, ?_⟩; have n0_ := Aside0.mk (Kd.R_elder' (by (with_reducible repeat (first | apply Kd.R_alloc | apply Kd.R_drewN | apply Kd.R_drew)); exact HO_6.out) (Kd.R_base ho0) hb); have n1_ := Aside0.mk (Kd.R_elder' (by (with_reducible repeat (first | apply Kd.R_alloc | apply Kd.R_drewN | apply Kd.R_drew)); exact HO_9.out) (Kd.R_base ho0) hb); have n2_ := Aside0.mk (Kd.R_below (by (with_reducible repeat (first | apply Kd.R_alloc | apply Kd.R_drewN | apply Kd.R_drew)); exact HO318.out) hb); have n3_ := Aside0.mk (Kd.R_lower (Kd.R_new' (Kd.R_new' ho0 (Kd.R_lt (by (with_reducible repeat (first | apply Kd.R_alloc | apply Kd.R_drewN | apply Kd.R_drew)); exact HO_6.out))) (Kd.R_lt (by (with_reducible repeat (first | apply Kd.R_alloc | apply Kd.R_drewN | apply Kd.R_drew)); exact HO_9.out))) (below_size (by repeat (first | (with_reducible first | exact HB.out | apply below_alloc | apply pw_below_drewN | apply below_drew1) | exact HB.out)))); have n4_ := Aside0.mk (below_step (by repeat (first | (with_reducible first | exact HB.out | apply below_alloc | apply pw_below_drewN | apply below_drew1) | exact HB.out)) hb); clear HO_6; clear HO_9; clear HO318; clear HB; have HO_6 := n0_; have HO_9 := n1_; have HO318 := n2_; have HO322 := n3_; have HB := n4_; clear n0_ n1_ n2_ n3_ n4_; (try clear hb); (try clear hb2); (try clear hk); (try clear hi); (try clear ho0)))
                        (try simp only [Act.put, List.setIfInBounds_toArray, List.set_cons_zero, List.set_cons_succ])
                        go_cut [95] (fun v95 wc => ∃ (kq : Nat) (x95_47 : Bool), v95 = .bool x95_47 ∧ Aside0 (laws_FnExactFindLines.j2 kq t314 t313 x95_47 = some r) ∧ Aside0 (kq ≤ kj27) ∧ Aside0 (Kd.R (Kd.int .i64) 2 wc w.heap.size (fun _ => True) (.slice Ao49 t301.length co49) t314) ∧ Aside0 (Below w.heap.size w wc))
                        case first =>
                          have H := HC48.out
                          clear HC48
                          replace H := Option.bind_eq_some_iff.mp H
                          obtain ⟨t323, A540, H⟩ := H
                          replace H : (if t323 = true then (laws_FnExactFindLines.j2 kj27 t314 t313 (t320 != t295)) else (laws_FnExactFindLines.j2 kj27 t314 t313 true)) = some r := H
                          have A54 := Aside0.mk A540
                          clear A540
                          by_cases c55 : t323 = true
                          · subst c55
                            have H1 : (laws_FnExactFindLines.j2 kj27 t314 t313 (t320 != t295)) = some r := by rw [if_pos rfl] at H; exact H
                            clear H
                            have H := H1
                            clear H1
                            have H' := Aside0.mk H
                            clear H
                            obtain ⟨Ao56, co56, eo56⟩ := Kd.R_slice HO322.out
                            subst eo56
                            obtain ⟨Ao57, co57, eo57⟩ := Kd.R_slice HO_6.out
                            subst eo57
                            go_wp2_with (first | ((with_reducible refine gate_callee (f := 41) rfl ?_); refine goesL_ (some 89) rfl rfl Try.func41 (by kernel_rfl) rfl #[.slice Ao56 t319.length co56, .slice Ao57 t294.length co57] rfl (by (try simp only [List.map_toArray, List.map_cons, List.map_nil]); first | done | rfl | (simp only [List.length_drop, List.length_take]; rfl)) ?_; (with_reducible refine (laws_eqInt64S.calls kj27 _ _ t319 _ _ t294 true _ ?side1 ?side2 ?side3 ?side4 A54.out).mono ?_); (case side1 => repeat (first | exact (Kd.R_reads' HO322.out).2.2 | (with_reducible refine Kd.C_alloc ?_ _) | (with_reducible refine Kd.C_drewN ?_ _) | (with_reducible refine Kd.C_drew ?_))); (case side2 => exact (Kd.R_reads' HO322.out).2.1); (case side3 => repeat (first | exact (Kd.R_reads' HO_6.out).2.2 | (with_reducible refine Kd.C_alloc ?_ _) | (with_reducible refine Kd.C_drewN ?_ _) | (with_reducible refine Kd.C_drew ?_))); (case side4 => exact (Kd.R_reads' HO_6.out).2.1); rintro e w' ⟨rfl, ⟨nd, rfl⟩⟩; refine ⟨_, rfl, ?_⟩))
                            go_meet
                            case rel => exact ⟨_, ((t320 != t295)), (by first | rfl | (simp; done) | (simp [*]; done)), H', ⟨by have := HJ9.out; have := HJ27.out; first | omega | exact Nat.le_refl _⟩, ⟨by (with_reducible repeat (first | apply Kd.R_alloc | apply Kd.R_drewN | apply Kd.R_drew)); exact Kd.R_mono HO_9.out (fun _ hk => trivial)⟩, ⟨by repeat (first | (with_reducible first | exact HB.out | apply below_alloc | apply pw_below_drewN | apply below_drew1) | exact HB.out)⟩⟩
                          · replace c55 := Bool.eq_false_iff.mpr c55
                            subst c55
                            have H1 : (laws_FnExactFindLines.j2 kj27 t314 t313 true) = some r := by rw [if_neg (show ¬ (false = true) by decide)] at H; exact H
                            clear H
                            have H := H1
                            clear H1
                            have H' := Aside0.mk H
                            clear H
                            obtain ⟨Ao58, co58, eo58⟩ := Kd.R_slice HO322.out
                            subst eo58
                            obtain ⟨Ao59, co59, eo59⟩ := Kd.R_slice HO_6.out
                            subst eo59
                            go_wp2_with (first | ((with_reducible refine gate_callee (f := 41) rfl ?_); refine goesL_ (some 89) rfl rfl Try.func41 (by kernel_rfl) rfl #[.slice Ao58 t319.length co58, .slice Ao59 t294.length co59] rfl (by (try simp only [List.map_toArray, List.map_cons, List.map_nil]); first | done | rfl | (simp only [List.length_drop, List.length_take]; rfl)) ?_; (with_reducible refine (laws_eqInt64S.calls kj27 _ _ t319 _ _ t294 false _ ?side1 ?side2 ?side3 ?side4 A54.out).mono ?_); (case side1 => repeat (first | exact (Kd.R_reads' HO322.out).2.2 | (with_reducible refine Kd.C_alloc ?_ _) | (with_reducible refine Kd.C_drewN ?_ _) | (with_reducible refine Kd.C_drew ?_))); (case side2 => exact (Kd.R_reads' HO322.out).2.1); (case side3 => repeat (first | exact (Kd.R_reads' HO_6.out).2.2 | (with_reducible refine Kd.C_alloc ?_ _) | (with_reducible refine Kd.C_drewN ?_ _) | (with_reducible refine Kd.C_drew ?_))); (case side4 => exact (Kd.R_reads' HO_6.out).2.1); rintro e w' ⟨rfl, ⟨nd, rfl⟩⟩; refine ⟨_, rfl, ?_⟩))
                            go_meet
                            case rel => exact ⟨_, (true), (by first | rfl | (simp; done) | (simp [*]; done)), H', ⟨by have := HJ9.out; have := HJ27.out; first | omega | exact Nat.le_refl _⟩, ⟨by (with_reducible repeat (first | apply Kd.R_alloc | apply Kd.R_drewN | apply Kd.R_drew)); exact Kd.R_mono HO_9.out (fun _ hk => trivial)⟩, ⟨by repeat (first | (with_reducible first | exact HB.out | apply below_alloc | apply pw_below_drewN | apply below_drew1) | exact HB.out)⟩⟩
                        case rest =>
                          clear HC48
                          try clear c1
                          try clear c2
                          try clear p2
                          try clear c3
                          try clear c3b0
                          try clear c3b1
                          try clear c4
                          try clear c5
                          try clear c5b0
                          try clear c6
                          try clear c14
                          try clear c18
                          try clear c21
                          try clear c23
                          try clear c25
                          try clear c26
                          try clear c32
                          try clear c32b0
                          try clear c34
                          try clear c39
                          try clear c41
                          try clear c42
                          try clear c42b0
                          try clear c44
                          try clear c45
                          try clear c45b0
                          try clear c45b1
                          try clear c55
                          try clear p2
                          obtain ⟨kq, x95_47, rfl, HA, HJ47, HO_9, HB⟩ := hcut
                          have hl9_47 := (Kd.R_reads' HO_9.out).1
                          rw [hl9_47] at HO_9
                          (try simp only [hl9_47])
                          cases kq with
                          | zero => exact absurd HA.out (by simp [laws_FnExactFindLines.j2])
                          | succ kj47 =>
                            have H := HA.out
                            clear HA
                            simp only [laws_FnExactFindLines.j2] at H
                            by_cases c60 : x95_47 = true
                            · subst c60
                              have H1 : (some false) = some r := by rw [if_pos rfl] at H; exact H
                              clear H
                              have H := H1
                              clear H1
                              obtain rfl := Option.some.inj H
                              go_wp2
                              go_ret
                              exact ⟨by first | rfl | (simp [errW_none, errW_some] <;> rfl) | (simp [*, errW_none, errW_some] <;> rfl), by repeat (first | (with_reducible first | exact HB.out | apply below_alloc | apply pw_below_drewN | apply below_drew1) | exact HB.out)⟩
                            · replace c60 := Bool.eq_false_iff.mpr c60
                              subst c60
                              have H1 : ((laws_heldInt64S.f kj47 t314 1).bind fun t324 => (if t324 < 0 then (some false) else (if t324 = t313 then (some true) else (some false)))) = some r := by rw [if_neg (show ¬ (false = true) by decide)] at H; exact H
                              clear H
                              have H := H1
                              clear H1
                              replace H := Option.bind_eq_some_iff.mp H
                              obtain ⟨t324, A610, H⟩ := H
                              replace H : (if t324 < 0 then (some false) else (if t324 = t313 then (some true) else (some false))) = some r := H
                              have A61 := Aside0.mk A610
                              clear A610
                              by_cases c62 : t324 < 0
                              · rw [if_pos c62] at H
                                have c62b0 : decide (t324 < 0) = true := decide_eq_true c62
                                clear c62
                                obtain rfl := Option.some.inj H
                                go_wp2_with (first | ((with_reducible refine gate_callee (f := 45) rfl ?_); refine goesL_ (some 98) rfl rfl Try.func45 (by kernel_rfl) rfl #[.slice Ao49 t314.length co49, .int .i64 1] rfl (by (try simp only [List.map_toArray, List.map_cons, List.map_nil]); first | done | rfl | (simp only [List.length_drop, List.length_take]; rfl)) ?_; (with_reducible refine (laws_heldInt64S.calls kj47 _ _ t314 1 t324 _ ?side1 ?side2 A61.out).mono ?_); (case side1 => repeat (first | exact (Kd.R_reads' HO_9.out).2.2 | (with_reducible refine Kd.C_alloc ?_ _) | (with_reducible refine Kd.C_drewN ?_ _) | (with_reducible refine Kd.C_drew ?_))); (case side2 => exact (Kd.R_reads' HO_9.out).2.1); rintro e w' ⟨rfl, ⟨nd, rfl⟩⟩; refine ⟨_, rfl, ?_⟩))
                                go_ret
                                exact ⟨by first | rfl | (simp [errW_none, errW_some] <;> rfl) | (simp [*, errW_none, errW_some] <;> rfl), by repeat (first | (with_reducible first | exact HB.out | apply below_alloc | apply pw_below_drewN | apply below_drew1) | exact HB.out)⟩
                              · rw [if_neg c62] at H
                                have c62b0 : decide (t324 < 0) = false := decide_eq_false c62
                                clear c62
                                by_cases c63 : t324 = t313
                                · rw [if_pos c63] at H
                                  have c63b0 : (t324 == t313) = true := beq_iff_eq.mpr c63
                                  have c63b1 : (t324 != t313) = false := bne_eq_false_iff_eq.mpr c63
                                  clear c63
                                  obtain rfl := Option.some.inj H
                                  go_wp2_with (first | ((with_reducible refine gate_callee (f := 45) rfl ?_); refine goesL_ (some 98) rfl rfl Try.func45 (by kernel_rfl) rfl #[.slice Ao49 t314.length co49, .int .i64 1] rfl (by (try simp only [List.map_toArray, List.map_cons, List.map_nil]); first | done | rfl | (simp only [List.length_drop, List.length_take]; rfl)) ?_; (with_reducible refine (laws_heldInt64S.calls kj47 _ _ t314 1 t324 _ ?side1 ?side2 A61.out).mono ?_); (case side1 => repeat (first | exact (Kd.R_reads' HO_9.out).2.2 | (with_reducible refine Kd.C_alloc ?_ _) | (with_reducible refine Kd.C_drewN ?_ _) | (with_reducible refine Kd.C_drew ?_))); (case side2 => exact (Kd.R_reads' HO_9.out).2.1); rintro e w' ⟨rfl, ⟨nd, rfl⟩⟩; refine ⟨_, rfl, ?_⟩))
                                  go_ret
                                  exact ⟨by first | rfl | (simp [errW_none, errW_some] <;> rfl) | (simp [*, errW_none, errW_some] <;> rfl), by repeat (first | (with_reducible first | exact HB.out | apply below_alloc | apply pw_below_drewN | apply below_drew1) | exact HB.out)⟩
                                · rw [if_neg c63] at H
                                  have c63b0 : (t324 == t313) = false := beq_eq_false_iff_ne.mpr c63
                                  have c63b1 : (t324 != t313) = true := bne_iff_ne.mpr c63
                                  obtain rfl := Option.some.inj H
                                  go_wp2_with (first | ((with_reducible refine gate_callee (f := 45) rfl ?_); refine goesL_ (some 98) rfl rfl Try.func45 (by kernel_rfl) rfl #[.slice Ao49 t314.length co49, .int .i64 1] rfl (by (try simp only [List.map_toArray, List.map_cons, List.map_nil]); first | done | rfl | (simp only [List.length_drop, List.length_take]; rfl)) ?_; (with_reducible refine (laws_heldInt64S.calls kj47 _ _ t314 1 t324 _ ?side1 ?side2 A61.out).mono ?_); (case side1 => repeat (first | exact (Kd.R_reads' HO_9.out).2.2 | (with_reducible refine Kd.C_alloc ?_ _) | (with_reducible refine Kd.C_drewN ?_ _) | (with_reducible refine Kd.C_drew ?_))); (case side2 => exact (Kd.R_reads' HO_9.out).2.1); rintro e w' ⟨rfl, ⟨nd, rfl⟩⟩; refine ⟨_, rfl, ?_⟩))
                                  go_ret
                                  exact ⟨by first | rfl | (simp [errW_none, errW_some] <;> rfl) | (simp [*, errW_none, errW_some] <;> rfl), by repeat (first | (with_reducible first | exact HB.out | apply below_alloc | apply pw_below_drewN | apply below_drew1) | exact HB.out)⟩
                      · rw [if_neg c45] at H
                        have c45b0 : (t315 == t313) = false := beq_eq_false_iff_ne.mpr c45
                        have c45b1 : (t315 != t313) = true := bne_iff_ne.mpr c45
                        obtain rfl := Option.some.inj H
                        obtain ⟨Ao64, co64, eo64⟩ := Kd.R_slice HO_9.out
                        subst eo64
                        go_wp2_with (first | ((with_reducible refine gate_callee (f := 44) rfl ?_); refine goesL_ (some 71) rfl rfl Try.func44 (by kernel_rfl) rfl #[.slice Ao64 t301.length co64, .int .i64 1] rfl (by (try simp only [List.map_toArray, List.map_cons, List.map_nil]); first | done | rfl | (simp only [List.length_drop, List.length_take]; rfl)) ?_; (with_reducible refine (laws_markInt64S.calls kj27 (fun k_ => some k_ = (.slice Ao64 t301.length co64 : Value).ownBlock) (.slice Ao64 t301.length co64) t301 1 t313 t314 w _ ?side1 ?side2 A40.out).mono ?_); (case side1 => repeat (first | (with_reducible first | exact HB.out | apply below_alloc | apply pw_below_drewN | apply below_drew1) | exact HB.out)); (case side2 => exact Kd.R_tight rfl HO_9.out); rintro e w65 ⟨rfl, hy0, hb, hkp⟩; refine ⟨_, rfl, ?_⟩; have n0_ := Aside0.mk (Kd.R_mono (ok' := fun k_ => some k_ ≠ (.slice Ao64 t301.length co64 : Value).ownBlock) (Kd.R_keptB (HO_6.out) hkp (fun k_ hk_ hs_ => (hk_) hs_)) (fun k_ hk_ => hk_.1)); have n1_ := Aside0.mk (Kd.R_reok rfl hy0 (fun k_ e_ => HO_9.out.1 k_ e_)); have n2_ := Aside0.mk (hb); clear HO_6; clear HO_9; clear HB; have HO_6 := n0_; have HO_9 := n1_; have HB := n2_; clear n0_ n1_ n2_; (try clear hb); (try clear hkp); (try clear hy0)) | ((with_reducible refine gate_callee (f := 45) rfl ?_); refine goesL_ (some 74) rfl rfl Try.func45 (by kernel_rfl) rfl #[.slice Ao64 t314.length co64, .int .i64 1] rfl (by (try simp only [List.map_toArray, List.map_cons, List.map_nil]); first | done | (rw [show t314.length = t301.length from (Kd.R_reads' HO_9.out).1.symm] <;> rfl) | rfl | (simp only [List.length_drop, List.length_take]; rfl)) ?_; (with_reducible refine (laws_heldInt64S.calls kj27 _ _ t314 1 t315 _ ?side1 ?side2 A41.out).mono ?_); (case side1 => repeat (first | exact (Kd.R_reads' HO_9.out).2.2 | (with_reducible refine Kd.C_alloc ?_ _) | (with_reducible refine Kd.C_drewN ?_ _) | (with_reducible refine Kd.C_drew ?_))); (case side2 => rw [show t314.length = t301.length from (Kd.R_reads' HO_9.out).1.symm]; exact (Kd.R_reads' HO_9.out).2.1); rintro e w' ⟨rfl, ⟨nd, rfl⟩⟩; refine ⟨_, rfl, ?_⟩))
                        go_ret
                        exact ⟨by first | rfl | (simp [errW_none, errW_some] <;> rfl) | (simp [*, errW_none, errW_some] <;> rfl), by repeat (first | (with_reducible first | exact HB.out | apply below_alloc | apply pw_below_drewN | apply below_drew1) | exact HB.out)⟩
            · replace c26 := Bool.eq_false_iff.mpr c26
              subst c26
              have H1 : (some false) = some r := by rw [if_neg (show ¬ (false = true) by decide)] at H; exact H
              clear H
              have H := H1
              clear H1
              obtain rfl := Option.some.inj H
              go_wp2_with (first | ((with_reducible refine gate_callee (f := 23) rfl ?_); refine goesL_ (some 50) rfl rfl Try.func23 (by kernel_rfl) rfl #[.slice A0 l0.length c0] rfl (by (try simp only [List.map_toArray, List.map_cons, List.map_nil]); first | done | rfl | (simp only [List.length_drop, List.length_take]; rfl)) ?_; (with_reducible refine (laws_toStringS.calls kj9 _ _ l0 t306 _ ?side1 ?side2 A24.out).mono ?_); (case side1 => repeat (first | exact (Kd.C_below HR0.out HB.out) | (with_reducible refine Kd.C_alloc ?_ _) | (with_reducible refine Kd.C_drewN ?_ _) | (with_reducible refine Kd.C_drew ?_))); (case side2 => exact HC0.out); rintro e w66 ⟨v307, rfl, ho0, hb⟩; refine ⟨_, rfl, ?_⟩; have n0_ := Aside0.mk (Kd.R_below (by (with_reducible repeat (first | apply Kd.R_alloc | apply Kd.R_drewN | apply Kd.R_drew)); exact HO_6.out) hb); have n1_ := Aside0.mk (Kd.R_elder' (by (with_reducible repeat (first | apply Kd.R_alloc | apply Kd.R_drewN | apply Kd.R_drew)); exact HO_8.out) (Kd.R_base ho0) hb); have n2_ := Aside0.mk (Kd.R_below (by (with_reducible repeat (first | apply Kd.R_alloc | apply Kd.R_drewN | apply Kd.R_drew)); exact HO_9.out) hb); have n3_ := Aside0.mk (Kd.R_lower (Kd.R_new' ho0 (Kd.R_lt (by (with_reducible repeat (first | apply Kd.R_alloc | apply Kd.R_drewN | apply Kd.R_drew)); exact HO_8.out))) (below_size (by repeat (first | (with_reducible first | exact HB.out | apply below_alloc | apply pw_below_drewN | apply below_drew1) | exact HB.out)))); have n4_ := Aside0.mk (below_step (by repeat (first | (with_reducible first | exact HB.out | apply below_alloc | apply pw_below_drewN | apply below_drew1) | exact HB.out)) hb); clear HO_6; clear HO_8; clear HO_9; clear HB; have HO_6 := n0_; have HO_8 := n1_; have HO_9 := n2_; have HO308 := n3_; have HB := n4_; clear n0_ n1_ n2_ n3_ n4_; (try clear hb); (try clear hb2); (try clear hk); (try clear hi); (try clear ho0); obtain ⟨Ao67, co67, eo67⟩ := Kd.R_slice HO308.out; subst eo67) | ((with_reducible refine gate_callee (f := 25) rfl ?_); refine goesL_ (some 51) rfl rfl Try.func25 (by kernel_rfl) rfl #[.slice Ao15 t298.length co15, .slice Ao67 t306.length co67] rfl (by (try simp only [List.map_toArray, List.map_cons, List.map_nil]); first | done | rfl | (simp only [List.length_drop, List.length_take]; rfl)) ?_; (with_reducible refine (laws_eqStringS.calls kj9 _ _ t298 _ _ t306 false _ ?side1 ?side2 ?side3 ?side4 A25.out).mono ?_); (case side1 => repeat (first | exact (Kd.R_reads' HO_8.out).2.2 | (with_reducible refine Kd.C_alloc ?_ _) | (with_reducible refine Kd.C_drewN ?_ _) | (with_reducible refine Kd.C_drew ?_))); (case side2 => exact (Kd.R_reads' HO_8.out).2.1); (case side3 => repeat (first | exact (Kd.R_reads' HO308.out).2.2 | (with_reducible refine Kd.C_alloc ?_ _) | (with_reducible refine Kd.C_drewN ?_ _) | (with_reducible refine Kd.C_drew ?_))); (case side4 => exact (Kd.R_reads' HO308.out).2.1); rintro e w' ⟨rfl, ⟨nd, rfl⟩⟩; refine ⟨_, rfl, ?_⟩))
              go_ret
              exact ⟨by first | rfl | (simp [errW_none, errW_some] <;> rfl) | (simp [*, errW_none, errW_some] <;> rfl), by repeat (first | (with_reducible first | exact HB.out | apply below_alloc | apply pw_below_drewN | apply below_drew1) | exact HB.out)⟩
end Go.Proofs.Ytdphbanfheejoaa.XB
end

section
namespace Go.Proofs.Ytdphbanfheejoaa.Open
open Go.ChangeShapes Go.WideShapes Go.RowKit Go.Proofs.YtdphbanfheejoaaW.PrintWords
set_option linter.unusedVariables false
def Opens (P : Program) (t : TypeId) {α : Type} (d : Kd α) (Q : α → Prop) : Prop :=
  P.cellsOf t = d.sz ∧ ∀ (H : Type) (enc : TypeId × Value → H) (w : World) (base : Nat) (spare : Nat → Bool) (held : Bool) (fuel : Nat) (cs : List Value) (x : DataW H × List MemPlace),
    DataW.trod enc P w base spare held fuel t cs = some x → ∃ a : α, d.K w a cs ∧ Q a
theorem Opens.int {P : Program} {t : TypeId} {k : IntKind} (hu : P.underlying t = some (.int k)) (hc : P.cellsOf t = 1) : Opens P t (Kd.int k) (fun n => (Lit.int k n).wf = true) := by
  refine ⟨hc, fun H enc w base spare held fuel cs x h => ?_⟩
  obtain ⟨n, rfl, _, hw⟩ := DataW.trod_int hu h
  exact ⟨n, rfl, hw⟩
theorem Opens.bool {P : Program} {t : TypeId} (hu : P.underlying t = some .bool) (hc : P.cellsOf t = 1) : Opens P t Kd.bool (fun _ => True) := by
  refine ⟨hc, fun H enc w base spare held fuel cs x h => ?_⟩
  obtain ⟨b, rfl, _⟩ := DataW.trod_bool hu h
  exact ⟨b, rfl, trivial⟩
theorem Opens.string {P : Program} {t : TypeId} (hu : P.underlying t = some .string) (hc : P.cellsOf t = 1) : Opens P t Kd.string (fun s => s.size ≤ maxLen) := by
  refine ⟨hc, fun H enc w base spare held fuel cs x h => ?_⟩
  obtain ⟨s, rfl, _, hs⟩ := DataW.trod_string hu h
  exact ⟨s, rfl, hs⟩
theorem choose_list {α : Type} {n : Nat} {p : Nat → α → Prop} (h : ∀ i, i < n → ∃ x, p i x) : ∃ l : List α, l.length = n ∧ ∀ i x, l[i]? = some x → p i x := by
  induction n with
  | zero => exact ⟨[], rfl, fun i x hx => by simp at hx⟩
  | succ n ih =>
    obtain ⟨l, hl, hp⟩ := ih (fun i hi => h i (by omega))
    obtain ⟨x, hx⟩ := h n (by omega)
    refine ⟨l ++ [x], by simp [hl], fun i y hy => ?_⟩
    rcases Nat.lt_or_ge i l.length with hi | hi
    · rw [List.getElem?_append_left hi] at hy
      exact hp i y hy
    · have : i = l.length := by
        have := (List.getElem?_eq_some_iff.1 hy).1
        simp at this
        omega
      subst this
      simp at hy
      subst hy
      rw [hl]
      exact hx
theorem cells?_get {w : World} {base : Nat} {a : Addr} {n : Nat} {cs : List Value} (h : w.cells? base a n = some cs) (i : Nat) (u : Value) (hu : cs[i]? = some u) : w.cell? (a.add i) = some u := by
  unfold World.cells? at h
  split at h
  · have hlen : cs.length = n := by simpa using mapM_some_length h
    have hi : i < n := by
      have := (List.getElem?_eq_some_iff.1 hu).1
      omega
    have := mapM_some_get h i i (by simp [hi])
    rw [hu] at this
    exact this
  · cases h
theorem Opens.slice {P : Program} {t e : TypeId} {α : Type} {d : Kd α} {Q : α → Prop} (hu : P.underlying t = some (.slice e)) (hc : P.cellsOf t = 1) (hd : Opens P e d Q) :
    Opens P t (Kd.slice e d) (fun xs => xs.length ≤ maxLen ∧ ∀ x ∈ xs, Q x) := by
  refine ⟨hc, fun H enc w base spare held fuel cs x h => ?_⟩
  rcases Go.Deep.open_slice hu h with ⟨rfl, _⟩ | ⟨a, len, cap, m, n, D, Pl, rfl, _, hl, hm, hmm, _, hx⟩
  · exact ⟨[], ⟨none, 0, rfl, Nat.le_refl _, rfl, by simp, fun h => absurd h (by simp)⟩, by simp, fun x hx => by simp at hx⟩
  · have hlm : len ≤ m := by rw [hmm]; split <;> omega
    obtain ⟨l, hl1, hp⟩ := choose_list (n := len) (p := fun i (x : α) => ∃ cs', w.cells? base (a.add (i * d.sz)) d.sz = some cs' ∧ d.K w x cs' ∧ Q x) (fun i hi => by
      obtain ⟨cs', h1, h2⟩ := hx i (by omega)
      rw [hd.1] at h1
      obtain ⟨y, hy, hq⟩ := hd.2 H enc w base spare held n cs' _ h2
      exact ⟨y, cs', h1, hy, hq⟩)
    have hmax : (maxLen : Nat) = 9223372036854775807 := by unfold maxLen; omega
    refine ⟨l, ⟨some a, cap, by rw [hl1], by omega, rfl, by omega, fun _ => ⟨a, rfl, fun j p hj => ?_⟩⟩, by omega, fun x hx => ?_⟩
    · obtain ⟨cs', h1, h2, _⟩ := hp j p hj
      refine ⟨cs', d.K_len h2, h2, fun i u hi => ?_⟩
      have := cells?_get h1 i u hi
      rwa [Go.Deep.add_add] at this
    · obtain ⟨i, hi, rfl⟩ := List.mem_iff_getElem.1 hx
      obtain ⟨cs', _, _, h3⟩ := hp i _ (List.getElem?_eq_getElem hi)
      exact h3
def OpensF (P : Program) (fs : List Field) (off : Nat) {α : Type} (d : Kd α) (Q : α → Prop) : Prop :=
  ∀ (H : Type) (enc : TypeId × Value → H) (w : World) (base : Nat) (spare : Nat → Bool) (held : Bool) (n : Nat) (cs : List Value), off + d.sz = cs.length →
    (∀ f ∈ fs, ∃ y, DataW.trod enc P w base spare held n f.type ((cs.drop f.offset).take (P.cellsOf f.type)) = some y) → ∃ a : α, d.K w a (cs.drop off) ∧ Q a
theorem OpensF.one {P : Program} {f : Field} {off : Nat} {α : Type} {d : Kd α} {Q : α → Prop} (ho : f.offset = off) (h : Opens P f.type d Q) : OpensF P [f] off d Q := by
  intro H enc w base spare held n cs hl hf
  obtain ⟨y, hy⟩ := hf f List.mem_cons_self
  rw [ho, h.1, List.take_of_length_le (by rw [List.length_drop]; omega)] at hy
  exact h.2 H enc w base spare held n _ y hy
theorem OpensF.cons {P : Program} {f : Field} {fs : List Field} {off : Nat} {α β : Type} {d1 : Kd α} {d2 : Kd β} {Q1 : α → Prop} {Q2 : β → Prop} (ho : f.offset = off) (h : Opens P f.type d1 Q1) (hs : OpensF P fs (off + d1.sz) d2 Q2) :
    OpensF P (f :: fs) off (Kd.pair d1 d2) (fun x => Q1 x.1 ∧ Q2 x.2) := by
  intro H enc w base spare held n cs hl hf
  have hl' : off + (d1.sz + d2.sz) = cs.length := hl
  obtain ⟨y, hy⟩ := hf f List.mem_cons_self
  rw [ho, h.1] at hy
  obtain ⟨a, ha, qa⟩ := h.2 H enc w base spare held n _ y hy
  obtain ⟨b, hb, qb⟩ := hs H enc w base spare held n cs (by omega) (fun g hg => hf g (List.mem_cons_of_mem _ hg))
  refine ⟨(a, b), ⟨_, _, ?_, ha, hb⟩, qa, qb⟩
  rw [← List.drop_drop, List.take_append_drop]
theorem open_sl {H : Type} {enc : TypeId × Value → H} {P : Program} {W : World} {base B : Nat} {spare : Nat → Bool} {held : Bool} {t e : TypeId} {v : Value} {dd : DataW H} {ps : List MemPlace} {α : Type} {d : Kd α} {Q : α → Prop}
    (hu : P.underlying t = some (.slice e)) (hc : P.cellsOf t = 1) (hd : Opens P e d Q) (hv : Value.okWide P W .any B t v) (h : DataW.Trod enc P W base spare held t v dd ps) :
    ∃ (A : Option Addr) (c : Nat) (l : List α), v = .slice A l.length c ∧ l.length ≤ c ∧ Kd.C d W A l.length l ∧ l.length ≤ maxLen ∧ ∀ x ∈ l, Q x := by
  obtain ⟨a0, len, cap, rfl⟩ := okWide_slice hu hv
  obtain ⟨fuel, hf⟩ := h
  obtain ⟨l, ⟨A, c, he, hl, hC⟩, hm, hq⟩ := (Opens.slice hu hc hd).2 H enc W base spare held fuel _ _ hf
  refine ⟨A, c, l, ?_, hl, hC, hm, hq⟩
  simpa [Value.cells] using he
end Go.Proofs.Ytdphbanfheejoaa.Open
end

section
namespace Go.Proofs.Ytdphbanfheejoaa.XB
open Go.RowKit Go.Proofs.YtdphbanfheejoaaW.PrintWords
def laws_FnExactFindLines.Pure : Prop := ∀ (a0 : List ByteArray), ∀ (a1 : ByteArray), ((a0.length ≤ maxLen ∧ ∀ y2 ∈ a0, y2.size ≤ maxLen)) → (a1.size ≤ 140737488351232) → ∃ k, laws_FnExactFindLines.f k a0 a1 = some true
end Go.Proofs.Ytdphbanfheejoaa.XB
end

section
namespace Go.Proofs.Ytdphbanfheejoaa.EvK
open Go.RowKit Go.Proofs.YtdphbanfheejoaaW.PrintWords
set_option linter.unusedVariables false
theorem w64 {n : Int} (h : -9223372036854775808 ≤ n) (h' : n ≤ 9223372036854775807) : wrap64 n = n := by unfold wrap64; omega
theorem Ev.some {α : Type} {a r : α} (h : a = r) : Ev (fun _ => Option.some a) r := h ▸ Ev.now a
theorem Ev.bind_some {α β : Type} {g : Nat → Option α} {f : Nat → α → Option β} {a : α} {r : β} (h : Ev g a) (k : Ev (fun n => f n a) r) : Ev (fun n => (g n).bind (f n)) r := Ev.bind h k
theorem getD_at {α : Type} (l : List α) (d : α) (i : Nat) (h : i < l.length) : l.getD (i : Int).toNat d = l[i] := by
  simp [List.getD_eq_getElem?_getD, List.getElem?_eq_getElem h]
theorem rdOf_at {α : Type} (l : List α) (d : α) (i : Nat) (h : i < l.length) : rdOf d l (i : Int) = l[i] := getD_at l d i h
theorem map_done {α β : Type} (f : α → β) (l : List α) (z : β) (i : Nat) (h : i < l.length) :
    ((l.take i).map f ++ List.replicate (l.length - i) z).set i (f l[i]) = (l.take (i + 1)).map f ++ List.replicate (l.length - (i + 1)) z := by
  have e : l.length - i = (l.length - (i + 1)) + 1 := by omega
  rw [List.set_append_right _ _ (by simp; omega), e, List.replicate_succ]
  have e2 : i - ((l.take i).map f).length = 0 := by simp; omega
  rw [e2, List.set_cons_zero, List.take_succ_eq_append_getElem h, List.map_append]
  simp
theorem done_len {α β : Type} (f : α → β) (l : List α) (z : β) (i : Nat) (h : i ≤ l.length) : ((l.take i).map f ++ List.replicate (l.length - i) z).length = l.length := by simp; omega
def EvP {α : Type} (g : Nat → Option α) (P : α → Prop) : Prop := ∃ r, Ev g r ∧ P r
theorem EvP.now {α : Type} {r : α} {P : α → Prop} (h : P r) : EvP (fun _ => Option.some r) P := ⟨r, Ev.now r, h⟩
theorem EvP.of {α : Type} {g : Nat → Option α} {r : α} {P : α → Prop} (h : Ev g r) (hp : P r) : EvP g P := ⟨r, h, hp⟩
theorem EvP.mono {α : Type} {g : Nat → Option α} {P Q : α → Prop} (h : EvP g P) (hp : ∀ r, P r → Q r) : EvP g Q := by
  obtain ⟨r, h1, h2⟩ := h
  exact ⟨r, h1, hp _ h2⟩
theorem EvP.eq {α : Type} {g : Nat → Option α} {r : α} (h : EvP g (· = r)) : Ev g r := by
  obtain ⟨r', h, rfl⟩ := h
  exact h
theorem EvP.step {α : Type} {g f : Nat → Option α} {P : α → Prop} (h : ∀ k, g (k + 1) = f k) (k : EvP f P) : EvP g P := by
  obtain ⟨r, h1, h2⟩ := k
  exact ⟨r, Ev.step h h1, h2⟩
theorem EvP.bind {α β : Type} {g : Nat → Option α} {f : Nat → α → Option β} {a : α} {P : β → Prop} (h : Ev g a) (k : EvP (fun n => f n a) P) : EvP (fun n => (g n).bind (f n)) P := by
  obtain ⟨r, h1, h2⟩ := k
  exact ⟨r, Ev.bind h h1, h2⟩
theorem EvP.bindP {α β : Type} {g : Nat → Option α} {f : Nat → α → Option β} {Q : α → Prop} {P : β → Prop} (h : EvP g Q) (k : ∀ a, Q a → EvP (fun n => f n a) P) : EvP (fun n => (g n).bind (f n)) P := by
  obtain ⟨a, ha, hq⟩ := h
  exact EvP.bind ha (k a hq)
theorem EvP.rounds {α : Type} {g : Nat → Option α} {r : α} (h : EvP g (· = r)) : ∃ k, g k = Option.some r := Ev.rounds (EvP.eq h)
theorem for_evp {σ ρ : Type} {L : Nat → σ → Int → Option ρ} {Post : ρ → Prop} (n : Nat) (inv : Nat → σ → Prop)
    (step : ∀ (i : Nat) (s : σ), i < n → inv i s → (∀ s', inv (i + 1) s' → EvP (fun k => L k s' ((i : Int) + 1)) Post) → EvP (fun k => L k s i) Post)
    (fin : ∀ s, inv n s → EvP (fun k => L k s n) Post) (s : σ) (h0 : inv 0 s) : EvP (fun k => L k s 0) Post := by
  have key : ∀ (d i : Nat) (s : σ), i + d = n → inv i s → EvP (fun k => L k s i) Post := by
    intro d
    induction d with
    | zero =>
      intro i s hi hs
      obtain rfl : i = n := by omega
      exact fin s hs
    | succ d ih =>
      intro i s hi hs
      refine step i s (by omega) hs (fun s' hs' => ?_)
      simpa using ih (i + 1) s' (by omega) hs'
  simpa using key n 0 s (by omega) h0
theorem take_all {α : Type} {p : α → Prop} {l : List α} {i : Nat} (h : i < l.length) (hs : ∀ x ∈ l.take i, p x) (hx : p l[i]) : ∀ x ∈ l.take (i + 1), p x := by
  rw [List.take_succ_eq_append_getElem h]
  intro x hm
  rcases List.mem_append.1 hm with hm | hm
  · exact hs x hm
  · rw [List.mem_singleton.1 hm]
    exact hx
theorem set_done {α : Type} (E : Nat → α) (l : List α) (i : Nat) (h : i < l.length) : ((List.range i).map E ++ l.drop i).set i (E i) = (List.range (i + 1)).map E ++ l.drop (i + 1) := by
  rw [List.set_append_right _ _ (by simp), List.range_succ, List.map_append, List.append_assoc]
  congr 1
  rw [List.length_map, List.length_range, Nat.sub_self, List.drop_eq_getElem_cons h]
  rfl
theorem getD_set_self {α : Type} (l : List α) (i : Nat) (v d : α) (h : i < l.length) : (l.set i v).getD i d = v := by
  simp [List.getD_eq_getElem?_getD, h]
theorem all_ev {α : Type} {L : Nat → Int → Option Bool} (l : List α) (p : α → Bool) (b : Bool)
    (step : ∀ (i : Nat) (h : i < l.length), p l[i] = true → ∀ P, EvP (fun k => L k ((i : Int) + 1)) P → EvP (fun k => L k i) P)
    (stop : ∀ (i : Nat) (h : i < l.length), p l[i] = false → Ev (fun k => L k i) false)
    (fin : Ev (fun k => L k l.length) b) : Ev (fun k => L k 0) (l.all p && b) := by
  apply EvP.eq
  refine for_evp (L := fun k (_ : Unit) i => L k i) l.length (fun i _ => ∀ x ∈ l.take i, p x = true) ?_ ?_ () (by simp)
  · intro i _ hi hs K
    cases hp : p l[i] with
    | true => exact step i hi hp _ (K () (take_all hi hs hp))
    | false =>
      have e : l.all p = false := by
        rw [List.all_eq_false]
        exact ⟨l[i], List.getElem_mem hi, by simp [hp]⟩
      rw [e]
      exact EvP.of (stop i hi hp) rfl
  · intro _ hs
    have e : l.all p = true := by
      rw [List.all_eq_true]
      simpa using hs
    rw [e]
    exact EvP.of fin rfl
theorem bytes_at_ (s : ByteArray) (i : Nat) (h : i < s.data.toList.length) : bt s (i : Int) = ((s.data.toList[i]).toNat : Int) := by
  have h' : i < s.size := by simpa using h
  unfold bt
  rw [dif_pos (by simpa using h')]
  simp
  rfl
theorem size_len (s : ByteArray) : (s.size : Int) = (s.data.toList.length : Int) := by simp
theorem size_len' (s : ByteArray) : s.size = s.data.toList.length := by simp
end Go.Proofs.Ytdphbanfheejoaa.EvK
end

section
namespace Go.Proofs.Ytdphbanfheejoaa.LinesB
open Go.RowKit Go.Proofs.YtdphbanfheejoaaW.PrintWords Go.Proofs.Ytdphbanfheejoaa.XB Go.Proofs.Ytdphbanfheejoaa.EvK
set_option linter.unusedVariables false
set_option linter.unusedSimpArgs false
def okByte (a b : Int) (c : UInt8) : Bool := decide (a ≤ (c.toNat : Int)) && decide ((c.toNat : Int) ≤ b)
def within (s : ByteArray) (a b : Int) : Bool := s.data.toList.all (okByte a b)
def lineOk (s : ByteArray) : Bool := within s 32 126 && decide ((s.size : Int) ≤ 100)
def repOk (l : List ByteArray) : Bool := l.all lineOk && decide ((l.length : Int) ≤ 200)
theorem bytesWithin_ev (s : ByteArray) (a b : Int) (h : s.size ≤ 1048576) : Ev (fun k => impl_bytesWithin.f k s a b) (within s a b) := by
  unfold impl_bytesWithin.f within
  rw [size_len']  at h
  have := all_ev (L := fun k i => impl_bytesWithin.l0 k s a b (s.size : Int) i) s.data.toList (okByte a b) true ?_ ?_ ?_
  · simpa using this
  · intro i hi hp P K
    simp only [okByte, Bool.and_eq_true, decide_eq_true_eq] at hp
    refine EvP.step (fun k => impl_bytesWithin.l0.eq_2 _ _ _ _ _ k) ?_
    simp only [size_len, if_pos (show (i : Int) < (s.data.toList.length : Int) by omega), if_pos (show (0 : Int) ≤ (i : Int) by omega), bytes_at_ s i hi, if_neg (show ¬ ((s.data.toList[i].toNat : Int) < a) by omega), if_neg (show ¬ ((s.data.toList[i].toNat : Int) > b) by omega), w64 (show -9223372036854775808 ≤ (i : Int) + 1 by omega) (by omega)]
    simpa only [size_len] using K
  · intro i hi hp
    simp only [okByte, Bool.and_eq_false_iff, decide_eq_false_iff_not] at hp
    refine Ev.step (fun k => impl_bytesWithin.l0.eq_2 _ _ _ _ _ k) ?_
    simp only [size_len, if_pos (show (i : Int) < (s.data.toList.length : Int) by omega), if_pos (show (0 : Int) ≤ (i : Int) by omega), bytes_at_ s i hi]
    by_cases h1 : (s.data.toList[i].toNat : Int) < a
    · simp only [if_pos h1]; exact Ev.now _
    · simp only [if_neg h1, if_pos (show (s.data.toList[i].toNat : Int) > b by omega)]; exact Ev.now _
  · refine Ev.step (fun k => impl_bytesWithin.l0.eq_2 _ _ _ _ _ k) ?_
    simp only [size_len, if_neg (show ¬ (s.data.toList.length : Int) < (s.data.toList.length : Int) by omega)]
    exact Ev.now _
theorem impl_line_ev (s : ByteArray) (h : s.size ≤ 1048576) : Ev (fun k => impl_lineValid.f k s) (lineOk s) := by
  unfold impl_lineValid.f lineOk
  by_cases h1 : (s.size : Int) ≤ 100
  · simp only [if_pos h1, h1, decide_true, Bool.and_true]
    exact Ev.bind (bytesWithin_ev s 32 126 h) (Ev.now _)
  · simp only [if_neg h1, h1, decide_false, Bool.and_false]
    exact Ev.now _
theorem spec_line_ev (s : ByteArray) (h : s.size ≤ 1048576) : Ev (fun k => spec_l30Line.f k s) (lineOk s) := by
  unfold spec_l30Line.f lineOk within
  rw [size_len']  at h
  refine all_ev (L := fun k i => spec_l30Line.l0 k s i) s.data.toList (okByte 32 126) (decide ((s.size : Int) ≤ 100)) ?_ ?_ ?_
  · intro i hi hp P K
    simp only [okByte, Bool.and_eq_true, decide_eq_true_eq] at hp
    refine EvP.step (fun k => spec_l30Line.l0.eq_2 _ _ k) ?_
    simp only [size_len, if_pos (show (i : Int) < (s.data.toList.length : Int) by omega), if_pos (show (0 : Int) ≤ (i : Int) by omega), bytes_at_ s i hi, if_neg (show ¬ ((s.data.toList[i].toNat : Int) < 32) by omega), if_neg (show ¬ ((s.data.toList[i].toNat : Int) > 126) by omega), w64 (show -9223372036854775808 ≤ (i : Int) + 1 by omega) (by omega)]
    exact K
  · intro i hi hp
    simp only [okByte, Bool.and_eq_false_iff, decide_eq_false_iff_not] at hp
    refine Ev.step (fun k => spec_l30Line.l0.eq_2 _ _ k) ?_
    simp only [size_len, if_pos (show (i : Int) < (s.data.toList.length : Int) by omega), if_pos (show (0 : Int) ≤ (i : Int) by omega), bytes_at_ s i hi]
    by_cases h1 : (s.data.toList[i].toNat : Int) < 32
    · simp only [if_pos h1]; exact Ev.now _
    · simp only [if_neg h1, if_pos (show (s.data.toList[i].toNat : Int) > 126 by omega)]; exact Ev.now _
  · refine Ev.step (fun k => spec_l30Line.l0.eq_2 _ _ k) ?_
    simp only [size_len, if_neg (show ¬ (s.data.toList.length : Int) < (s.data.toList.length : Int) by omega)]
    exact Ev.now _
theorem spec_rep_ev (l : List ByteArray) (hl : l.length ≤ 1048576) (hs : ∀ x ∈ l, x.size ≤ 1048576) : Ev (fun k => spec_l30Ok.f k l) (repOk l) := by
  unfold spec_l30Ok.f repOk
  refine all_ev (L := fun k i => spec_l30Ok.l0 k l i) l lineOk _ ?_ ?_ ?_
  · intro i hi hp P K
    have e : rdOf ByteArray.empty l (i : Int) = l[i] := getD_at l ByteArray.empty i hi
    refine EvP.step (fun k => spec_l30Ok.l0.eq_2 _ _ k) ?_
    simp only [if_pos (show (i : Int) < (l.length : Int) by omega), if_pos (show (0 : Int) ≤ (i : Int) by omega), e, w64 (show -9223372036854775808 ≤ (i : Int) + 1 by omega) (by omega)]
    refine EvP.bind (spec_line_ev l[i] (hs _ (List.getElem_mem hi))) ?_
    simp only [hp, if_true]
    exact K
  · intro i hi hp
    have e : rdOf ByteArray.empty l (i : Int) = l[i] := getD_at l ByteArray.empty i hi
    refine Ev.step (fun k => spec_l30Ok.l0.eq_2 _ _ k) ?_
    simp only [if_pos (show (i : Int) < (l.length : Int) by omega), if_pos (show (0 : Int) ≤ (i : Int) by omega), e]
    refine Ev.bind (spec_line_ev l[i] (hs _ (List.getElem_mem hi))) ?_
    simp only [hp, Bool.false_eq_true, if_false]
    exact Ev.now _
  · refine Ev.step (fun k => spec_l30Ok.l0.eq_2 _ _ k) ?_
    simp only [if_neg (show ¬ (l.length : Int) < (l.length : Int) by omega)]
    exact Ev.now _
theorem impl_rep_ev (l : List ByteArray) (hl : l.length ≤ 1048576) (hs : ∀ x ∈ l, x.size ≤ 1048576) : Ev (fun k => impl_ValidReport.f k l) (repOk l) := by
  unfold impl_ValidReport.f repOk
  by_cases h1 : (l.length : Int) > 200
  · simp only [if_pos h1, show ¬ (l.length : Int) ≤ 200 by omega, decide_false, Bool.and_false]
    exact Ev.now _
  simp only [if_neg h1, show (l.length : Int) ≤ 200 by omega, decide_true]
  refine all_ev (L := fun k i => impl_ValidReport.l0 k l (l.length : Int) i) l lineOk true ?_ ?_ ?_
  · intro i hi hp P K
    have e : rdOf ByteArray.empty l (i : Int) = l[i] := getD_at l ByteArray.empty i hi
    refine EvP.step (fun k => impl_ValidReport.l0.eq_2 _ _ _ k) ?_
    simp only [if_pos (show (i : Int) < (l.length : Int) by omega), if_pos (show (0 : Int) ≤ (i : Int) by omega), e, w64 (show -9223372036854775808 ≤ (i : Int) + 1 by omega) (by omega)]
    refine EvP.bind (impl_line_ev l[i] (hs _ (List.getElem_mem hi))) ?_
    simp only [hp, if_true]
    exact K
  · intro i hi hp
    have e : rdOf ByteArray.empty l (i : Int) = l[i] := getD_at l ByteArray.empty i hi
    refine Ev.step (fun k => impl_ValidReport.l0.eq_2 _ _ _ k) ?_
    simp only [if_pos (show (i : Int) < (l.length : Int) by omega), if_pos (show (0 : Int) ≤ (i : Int) by omega), e]
    refine Ev.bind (impl_line_ev l[i] (hs _ (List.getElem_mem hi))) ?_
    simp only [hp, Bool.false_eq_true, if_false]
    exact Ev.now _
  · refine Ev.step (fun k => impl_ValidReport.l0.eq_2 _ _ _ k) ?_
    simp only [if_neg (show ¬ (l.length : Int) < (l.length : Int) by omega)]
    exact Ev.now _
end Go.Proofs.Ytdphbanfheejoaa.LinesB
end

section
namespace Go.Proofs.Ytdphbanfheejoaa.PBasics
open Go.RowKit Go.Proofs.YtdphbanfheejoaaW.PrintWords Go.Proofs.Ytdphbanfheejoaa.XB Go.Proofs.Ytdphbanfheejoaa.EvK
set_option linter.unusedVariables false
set_option linter.unusedSimpArgs false
theorem toList_eq (s : ByteArray) : s.toList = s.data.toList := by
  have := Lib.toList_data s
  first | exact this | exact this.symm
end Go.Proofs.Ytdphbanfheejoaa.PBasics
end

section
namespace Go.Proofs.Ytdphbanfheejoaa.PFind
open Go.RowKit Go.Proofs.YtdphbanfheejoaaW.PrintWords Go.Proofs.Ytdphbanfheejoaa.XB Go.Proofs.Ytdphbanfheejoaa.EvK Go.Proofs.Ytdphbanfheejoaa.PBasics Go.Proofs.Ytdphbanfheejoaa.LinesB
set_option linter.unusedVariables false
set_option linter.unusedSimpArgs false
def has (s w : ByteArray) : Bool := Lib.contains s.data.toList w.data.toList
theorem extract_list (s : ByteArray) (a b : Nat) : (s.extract a b).data.toList = (s.data.toList.drop a).take (b - a) := by
  simp [ByteArray.data_extract, Array.toList_extract, List.extract_eq_take_drop]
theorem occ_iff {l w : List UInt8} {i : Nat} (h : i + w.length ≤ l.length) : Lib.occAt l w i = true ↔ (l.drop i).take (i + w.length - i) = w := by
  unfold Lib.occAt
  rw [List.isPrefixOf_iff_prefix, show i + w.length - i = w.length by omega]
  constructor
  · rintro ⟨t, ht⟩
    rw [← ht, List.take_left]
  · intro e
    have h2 := List.take_append_drop w.length (l.drop i)
    rw [e] at h2
    exact ⟨_, h2⟩
theorem occ_short {l w : List UInt8} {i : Nat} (h : l.length < i + w.length) (hi : i ≤ l.length) : Lib.occAt l w i = false := by
  cases hb : Lib.occAt l w i with
  | false => rfl
  | true =>
    unfold Lib.occAt at hb
    rw [List.isPrefixOf_iff_prefix] at hb
    have := hb.length_le
    rw [List.length_drop] at this
    omega
theorem specHas_ev (s w : ByteArray) (hs : s.size ≤ 1048576) (hw : w.size ≤ 1048576) : Ev (fun k => spec_l30Has.f k s w) (has s w) := by
  unfold spec_l30Has.f has Lib.contains
  have hl := size_len' s
  have hwl := size_len' w
  have ho : ∀ i : Nat, i + w.size ≤ s.size → ((s.extract i (i + w.size)).toList = w.toList ↔ Lib.occAt s.data.toList w.data.toList i = true) := by
    intro i h
    rw [toList_eq, toList_eq, extract_list, hwl, occ_iff (by omega)]
  rcases Lib.index_spec s.data.toList w.data.toList with ⟨h1, h2⟩ | ⟨i, h1, h2, h3, h4⟩
  · rw [h1, decide_eq_false (by omega)]
    apply EvP.eq
    by_cases hz : s.size < w.size
    · refine EvP.step (fun k => spec_l30Has.l0.eq_2 _ _ _ k) ?_
      simp only [w64 (show -9223372036854775808 ≤ (0 : Int) + (w.size : Int) by omega) (by omega), if_neg (show ¬ ((0 : Int) + (w.size : Int) ≤ (s.size : Int)) by omega)]
      exact EvP.now rfl
    refine for_evp (L := fun k (_ : Unit) i => spec_l30Has.l0 k s w i) (s.size + 1 - w.size) (fun _ _ => True) ?_ ?_ () trivial
    · intro i _ hi _ K
      refine EvP.step (fun k => spec_l30Has.l0.eq_2 _ _ _ k) ?_
      have hn : ¬ ((s.extract i (i + w.size)).toList = w.toList) := by
        rw [ho i (by omega), h2 i (by omega)]
        exact Bool.false_ne_true
      simp only [w64 (show -9223372036854775808 ≤ (i : Int) + (w.size : Int) by omega) (by omega), w64 (show -9223372036854775808 ≤ (i : Int) + 1 by omega) (by omega), if_pos (show ((i : Int) + (w.size : Int) ≤ (s.size : Int)) by omega), if_pos (show (0 : Int) ≤ (i : Int) by omega), if_pos (show (i : Int) ≤ (i : Int) + (w.size : Int) by omega), Int.toNat_natCast, show ((i : Int) + (w.size : Int)).toNat = i + w.size by omega, if_neg hn]
      exact K () trivial
    · intro _ _
      refine EvP.step (fun k => spec_l30Has.l0.eq_2 _ _ _ k) ?_
      simp only [w64 (show -9223372036854775808 ≤ ((s.size + 1 - w.size : Nat) : Int) + (w.size : Int) by omega) (by omega), if_neg (show ¬ (((s.size + 1 - w.size : Nat) : Int) + (w.size : Int) ≤ (s.size : Int)) by omega)]
      exact EvP.now rfl
  · rw [h1, decide_eq_true (by omega)]
    apply EvP.eq
    have hle : i + w.size ≤ s.size := by
      by_cases h : i + w.size ≤ s.size
      · exact h
      · rw [occ_short (by omega) h2] at h3
        exact absurd h3 Bool.false_ne_true
    refine for_evp (L := fun k (_ : Unit) i => spec_l30Has.l0 k s w i) i (fun _ _ => True) ?_ ?_ () trivial
    · intro j _ hj _ K
      refine EvP.step (fun k => spec_l30Has.l0.eq_2 _ _ _ k) ?_
      have hn : ¬ ((s.extract j (j + w.size)).toList = w.toList) := by
        rw [ho j (by omega)]
        exact Bool.eq_false_iff.1 (h4 j hj)
      simp only [w64 (show -9223372036854775808 ≤ (j : Int) + (w.size : Int) by omega) (by omega), w64 (show -9223372036854775808 ≤ (j : Int) + 1 by omega) (by omega), if_pos (show ((j : Int) + (w.size : Int) ≤ (s.size : Int)) by omega), if_pos (show (0 : Int) ≤ (j : Int) by omega), if_pos (show (j : Int) ≤ (j : Int) + (w.size : Int) by omega), Int.toNat_natCast, show ((j : Int) + (w.size : Int)).toNat = j + w.size by omega, if_neg hn]
      exact K () trivial
    · intro _ _
      refine EvP.step (fun k => spec_l30Has.l0.eq_2 _ _ _ k) ?_
      simp only [w64 (show -9223372036854775808 ≤ (i : Int) + (w.size : Int) by omega) (by omega), if_pos (show ((i : Int) + (w.size : Int) ≤ (s.size : Int)) by omega), if_pos (show (0 : Int) ≤ (i : Int) by omega), if_pos (show (i : Int) ≤ (i : Int) + (w.size : Int) by omega), Int.toNat_natCast, show ((i : Int) + (w.size : Int)).toNat = i + w.size by omega, if_pos ((ho i hle).2 h3)]
      exact EvP.now rfl
theorem implHas_eq (s w : ByteArray) (hs : s.size ≤ 1048576) : strings_Contains.f s w = some (has s w) := by
  unfold strings_Contains.f has
  rw [if_pos (by omega)]
def found (w : ByteArray) : Nat → List ByteArray → List Int
  | _, [] => []
  | i, s :: l => if has s w = true then (i : Int) :: found w (i + 1) l else found w (i + 1) l
theorem found_len (w : ByteArray) : ∀ (l : List ByteArray) (i : Nat), (found w i l).length ≤ l.length
  | [], _ => by simp [found]
  | s :: l, i => by
    unfold found
    have := found_len w l (i + 1)
    split <;> simp <;> omega
theorem found_take (w : ByteArray) (l : List ByteArray) (i : Nat) (h : i < l.length) : ∀ j, found w j (l.take (i + 1)) = found w j (l.take i) ++ (if has l[i] w = true then [((j + i : Nat) : Int)] else []) := by
  induction l generalizing i with
  | nil => simp at h
  | cons s l ih =>
    intro j
    cases i with
    | zero => simp [found]
    | succ i =>
      have := ih i (by simpa using h) (j + 1)
      simp only [List.take_succ_cons, found, List.getElem_cons_succ]
      rw [this, show j + 1 + i = j + (i + 1) by omega]
      split <;> simp
def findOf (l : List ByteArray) (w : ByteArray) : List Int × Int := if repOk l = true then (if w.data.toList = [] then ([], 2) else (found w 0 l, 0)) else ([], 1)
theorem specFind_ev (l : List ByteArray) (w : ByteArray) (hl : l.length ≤ 1048576) (hs : ∀ x ∈ l, x.size ≤ 1048576) (hw : w.size ≤ 1048576) : Ev (fun k => spec_FindLines.f k l w) (findOf l w) := by
  unfold spec_FindLines.f findOf
  refine Ev.bind (spec_rep_ev l hl hs) ?_
  cases repOk l with
  | false => exact Ev.now _
  | true =>
    simp only [if_true, toList_eq]
    by_cases he : w.data.toList = []
    · simp only [if_pos he]; exact Ev.now _
    simp only [if_neg he]
    apply EvP.eq
    refine for_evp (L := fun k (a : List Int) i => spec_FindLines.l0 k l w a i) l.length (fun i a => a = found w 0 (l.take i)) ?_ ?_ [] (by simp [found])
    · intro i a hi ha K
      subst ha
      have e : rdOf ByteArray.empty l (i : Int) = l[i] := rdOf_at l ByteArray.empty i hi
      have hlen := found_len w (l.take i) 0
      rw [List.length_take] at hlen
      refine EvP.step (fun k => spec_FindLines.l0.eq_2 _ _ _ _ k) ?_
      simp only [if_pos (show (i : Int) < (l.length : Int) by omega), if_pos (show (0 : Int) ≤ (i : Int) by omega), e, w64 (show -9223372036854775808 ≤ (i : Int) + 1 by omega) (by omega), if_pos (show (found w 0 (l.take i)).length < 17592186044416 by omega)]
      refine EvP.bind (specHas_ev l[i] w (hs _ (List.getElem_mem hi)) hw) ?_
      have ht := found_take w l i hi 0
      cases hh : has l[i] w with
      | true =>
        simp only [hh, if_true, Nat.zero_add] at ht ⊢
        exact K _ ht.symm
      | false =>
        simp only [hh, Bool.false_eq_true, if_false, List.append_nil] at ht ⊢
        exact K _ ht.symm
    · intro a ha
      refine EvP.step (fun k => spec_FindLines.l0.eq_2 _ _ _ _ k) ?_
      simp only [if_neg (show ¬ (l.length : Int) < (l.length : Int) by omega)]
      rw [ha, List.take_length]
      exact EvP.now rfl
theorem implFind_ev (l : List ByteArray) (w : ByteArray) (hl : l.length ≤ 1048576) (hs : ∀ x ∈ l, x.size ≤ 1048576) (hw : w.size ≤ 1048576) : Ev (fun k => impl_FindLines.f k l w) (findOf l w) := by
  unfold impl_FindLines.f findOf
  refine Ev.bind (impl_rep_ev l hl hs) ?_
  cases repOk l with
  | false => exact Ev.now _
  | true =>
    simp only [if_true, toList_eq]
    by_cases he : w.data.toList = []
    · simp only [if_pos he]; exact Ev.now _
    simp only [if_neg he]
    apply EvP.eq
    refine for_evp (L := fun k (a : List Int) i => impl_FindLines.l0 k w a l (l.length : Int) i) l.length (fun i a => a = found w 0 (l.take i)) ?_ ?_ [] (by simp [found])
    · intro i a hi ha K
      subst ha
      have e : rdOf ByteArray.empty l (i : Int) = l[i] := rdOf_at l ByteArray.empty i hi
      have hlen := found_len w (l.take i) 0
      rw [List.length_take] at hlen
      refine EvP.step (fun k => impl_FindLines.l0.eq_2 _ _ _ _ _ k) ?_
      simp only [if_pos (show (i : Int) < (l.length : Int) by omega), if_pos (show (0 : Int) ≤ (i : Int) by omega), e, w64 (show -9223372036854775808 ≤ (i : Int) + 1 by omega) (by omega), if_pos (show (found w 0 (l.take i)).length < 17592186044416 by omega), implHas_eq l[i] w (hs _ (List.getElem_mem hi)), Option.bind_some]
      have ht := found_take w l i hi 0
      cases hh : has l[i] w with
      | true =>
        simp only [hh, if_true, Nat.zero_add] at ht ⊢
        exact K _ ht.symm
      | false =>
        simp only [hh, Bool.false_eq_true, if_false, List.append_nil] at ht ⊢
        exact K _ ht.symm
    · intro a ha
      refine EvP.step (fun k => impl_FindLines.l0.eq_2 _ _ _ _ _ k) ?_
      simp only [if_neg (show ¬ (l.length : Int) < (l.length : Int) by omega)]
      rw [ha, List.take_length]
      exact EvP.now rfl
end Go.Proofs.Ytdphbanfheejoaa.PFind
end

section
namespace Go.Proofs.Ytdphbanfheejoaa.SB
open Go.RowKit Go.Proofs.YtdphbanfheejoaaW.PrintWords Go.Proofs.Ytdphbanfheejoaa.XB Go.Proofs.Ytdphbanfheejoaa.EvK
set_option linter.unusedVariables false
set_option linter.unusedSimpArgs false
theorem szStringS_ev (l : List ByteArray) (left : Int) (h0 : 0 ≤ left) (h1 : left ≤ 1048576) (hq : (l.length ≤ maxLen ∧ ∀ y1 ∈ l, y1.size ≤ maxLen)) : EvP (fun k => laws_szStringS.f k l left) (fun t => t ≤ left ∧ (0 ≤ t → l.length ≤ 1048576 ∧ ∀ x ∈ l, x.size ≤ 1048576)) := by
  obtain ⟨hl, hq⟩ := hq
  unfold maxLen at hl
  unfold laws_szStringS.f
  rw [w64 (by omega) (by omega)]
  by_cases hc : left - (l.length : Int) < 0
  · simp only [if_pos hc]
    exact EvP.now ⟨by omega, by omega⟩
  simp only [if_neg hc]
  refine for_evp (L := fun k (s : Int) i => laws_szStringS.l0 k l s i) l.length (fun i s => 0 ≤ s ∧ s ≤ left - (l.length : Int) ∧ ∀ x ∈ l.take i, x.size ≤ 1048576) ?_ ?_ _ ⟨by omega, by omega, by simp⟩
  · rintro i s hi ⟨hs0, hs1, hs⟩ K
    have e : rdOf ByteArray.empty l (i : Int) = l[i] := getD_at l ByteArray.empty i hi
    refine EvP.step (fun k => laws_szStringS.l0.eq_2 _ _ _ k) ?_
    have hz := hq _ (List.getElem_mem hi)
    unfold maxLen at hz
    simp only [if_pos (show (i : Int) < (l.length : Int) by omega), if_pos (show (0 : Int) ≤ (i : Int) by omega), e, w64 (show -9223372036854775808 ≤ (i : Int) + 1 by omega) (by omega), w64 (show -9223372036854775808 ≤ s - (l[i].size : Int) by omega) (by omega)]
    by_cases hn : s - (l[i].size : Int) < 0
    · simp only [if_pos hn]
      exact EvP.now ⟨by omega, by omega⟩
    · simp only [if_neg hn]
      exact K _ ⟨by omega, by omega, take_all hi hs (by omega)⟩
  · rintro s ⟨hs0, hs1, hs⟩
    refine EvP.step (fun k => laws_szStringS.l0.eq_2 _ _ _ k) ?_
    simp only [if_neg (show ¬ (l.length : Int) < (l.length : Int) by omega)]
    exact EvP.now ⟨by omega, fun _ => ⟨by omega, by simpa using hs⟩⟩
end Go.Proofs.Ytdphbanfheejoaa.SB
end

section
namespace Go.Proofs.Ytdphbanfheejoaa.SB
open Go.RowKit Go.Proofs.YtdphbanfheejoaaW.PrintWords Go.Proofs.Ytdphbanfheejoaa.XB Go.Proofs.Ytdphbanfheejoaa.EvK
set_option linter.unusedVariables false
set_option linter.unusedSimpArgs false
def toStringS_el (x : ByteArray) : ByteArray := x
theorem toStringS_ev (l : List ByteArray) (hl : l.length ≤ 1048576) : Ev (fun k => laws_toStringS.f k l) (l.map toStringS_el) := by
  apply EvP.eq
  unfold laws_toStringS.f
  simp only [if_pos (show (0 : Int) ≤ (l.length : Int) by omega), Int.toNat_natCast, if_pos (show l.length ≤ 17592186044416 by omega)]
  refine for_evp (L := fun k (s : List ByteArray) i => laws_toStringS.l0 k l s i) l.length (fun i s => s = (l.take i).map toStringS_el ++ List.replicate (l.length - i) (⟨#[]⟩ : ByteArray)) ?_ ?_ (List.replicate l.length (⟨#[]⟩ : ByteArray)) (by simp)
  · rintro i s hi rfl K
    have e : rdOf ByteArray.empty l (i : Int) = l[i] := getD_at l ByteArray.empty i hi
    have hlen := done_len toStringS_el l (⟨#[]⟩ : ByteArray) i (by omega)
    refine EvP.step (fun k => laws_toStringS.l0.eq_2 _ _ _ k) ?_
    simp only [if_pos (show (i : Int) < (l.length : Int) by omega), if_pos (show (0 : Int) ≤ (i : Int) by omega), e, hlen, w64 (show -9223372036854775808 ≤ (i : Int) + 1 by omega) (by omega), Int.toNat_natCast]
    refine K _ ?_
    show List.set _ i (toStringS_el l[i]) = _
    exact map_done toStringS_el l _ i hi
  · rintro s rfl
    refine EvP.step (fun k => laws_toStringS.l0.eq_2 _ _ _ k) ?_
    simp only [if_neg (show ¬ (l.length : Int) < (l.length : Int) by omega)]
    exact EvP.now (by simp)
end Go.Proofs.Ytdphbanfheejoaa.SB
end

section
namespace Go.Proofs.Ytdphbanfheejoaa.SB
open Go.RowKit Go.Proofs.YtdphbanfheejoaaW.PrintWords Go.Proofs.Ytdphbanfheejoaa.XB Go.Proofs.Ytdphbanfheejoaa.EvK
set_option linter.unusedVariables false
set_option linter.unusedSimpArgs false
theorem eqStringS_ev (l : List ByteArray) (hl : l.length ≤ 1048576) : Ev (fun k => laws_eqStringS.f k l l) true := by
  apply EvP.eq
  unfold laws_eqStringS.f
  simp only [if_true]
  refine for_evp (L := fun k (s : Unit) i => laws_eqStringS.l0 k l l i) l.length (fun i s => True) ?_ ?_ () trivial
  · rintro i s hi - K
    refine EvP.step (fun k => laws_eqStringS.l0.eq_2 _ _ _ k) ?_
    simp only [if_pos (show (i : Int) < (l.length : Int) by omega), if_pos (show (0 : Int) ≤ (i : Int) by omega), if_true, w64 (show -9223372036854775808 ≤ (i : Int) + 1 by omega) (by omega)]
    exact K () trivial
  · rintro s -
    refine EvP.step (fun k => laws_eqStringS.l0.eq_2 _ _ _ k) ?_
    simp only [if_neg (show ¬ (l.length : Int) < (l.length : Int) by omega)]
    exact EvP.now rfl
end Go.Proofs.Ytdphbanfheejoaa.SB
end

section
namespace Go.Proofs.Ytdphbanfheejoaa.SB
open Go.RowKit Go.Proofs.YtdphbanfheejoaaW.PrintWords Go.Proofs.Ytdphbanfheejoaa.XB Go.Proofs.Ytdphbanfheejoaa.EvK
set_option linter.unusedVariables false
set_option linter.unusedSimpArgs false
theorem eqInt64S_ev (l : List Int) (hl : l.length ≤ 1048576) : Ev (fun k => laws_eqInt64S.f k l l) true := by
  apply EvP.eq
  unfold laws_eqInt64S.f
  simp only [if_true]
  refine for_evp (L := fun k (s : Unit) i => laws_eqInt64S.l0 k l l i) l.length (fun i s => True) ?_ ?_ () trivial
  · rintro i s hi - K
    refine EvP.step (fun k => laws_eqInt64S.l0.eq_2 _ _ _ k) ?_
    simp only [if_pos (show (i : Int) < (l.length : Int) by omega), if_pos (show (0 : Int) ≤ (i : Int) by omega), if_true, w64 (show -9223372036854775808 ≤ (i : Int) + 1 by omega) (by omega)]
    exact K () trivial
  · rintro s -
    refine EvP.step (fun k => laws_eqInt64S.l0.eq_2 _ _ _ k) ?_
    simp only [if_neg (show ¬ (l.length : Int) < (l.length : Int) by omega)]
    exact EvP.now rfl
end Go.Proofs.Ytdphbanfheejoaa.SB
end

section
namespace Go.Proofs.Ytdphbanfheejoaa.SB
open Go.RowKit Go.Proofs.YtdphbanfheejoaaW.PrintWords Go.Proofs.Ytdphbanfheejoaa.XB Go.Proofs.Ytdphbanfheejoaa.EvK
set_option linter.unusedVariables false
set_option linter.unusedSimpArgs false
theorem markInt64S_ev (l : List Int) (c : Int) (h0 : 0 ≤ c) (h1 : c + (l.length : Int) ≤ 4611686018427387904) :
    ∃ y : List Int, Ev (fun k => laws_markInt64S.f k l c) (c + (l.length : Int), y) ∧ Ev (fun k => laws_heldInt64S.f k y c) (c + (l.length : Int)) ∧ y.length = l.length := by
  let E : Nat → Int := fun j => c + (j : Int)
  have hset : ∀ (i : Nat) (h : i < l.length), ((List.range i).map E ++ l.drop i).set i (E i) = (List.range (i + 1)).map E ++ l.drop (i + 1) := fun i h => set_done E l i h
  have hlen : ∀ (i : Nat), i ≤ l.length → ((List.range i).map E ++ l.drop i).length = l.length := by intro i h; simp; omega
  refine ⟨(List.range l.length).map E, EvP.eq ?_, EvP.eq ?_, by simp⟩
  · unfold laws_markInt64S.f
    refine for_evp (L := fun k (s : List Int × Int) i => laws_markInt64S.l0 k s.1 s.2 i) l.length (fun i s => s = ((List.range i).map E ++ l.drop i, c + (i : Int))) ?_ ?_ (l, c) (by simp)
    · rintro i s hi rfl K
      refine EvP.step (fun k => laws_markInt64S.l0.eq_2 _ _ _ k) ?_
      simp only [hlen i (by omega), if_pos (show (i : Int) < (l.length : Int) by omega), if_pos (show (0 : Int) ≤ (i : Int) by omega), Option.bind_some, w64 (show -9223372036854775808 ≤ (i : Int) + 1 by omega) (by omega), w64 (show -9223372036854775808 ≤ c + (i : Int) + 1 by omega) (by omega), Int.toNat_natCast]
      refine K (_, _) ?_
      rw [← hset i hi, Prod.mk.injEq]
      refine ⟨?_, by push_cast; omega⟩
      have g1 := hlen i (by omega)
      generalize (List.range i).map E ++ l.drop i = L at g1
      have g2 : i < L.length := by omega
      first | rfl | (simp [E, getD_set_self, g2])
    · rintro s rfl
      refine EvP.step (fun k => laws_markInt64S.l0.eq_2 _ _ _ k) ?_
      simp only [hlen l.length (Nat.le_refl _), if_neg (show ¬ (l.length : Int) < (l.length : Int) by omega)]
      exact EvP.now (by simp)
  · unfold laws_heldInt64S.f
    have hl2 : ((List.range l.length).map E).length = l.length := by simp
    refine for_evp (L := fun k (s : Int) i => laws_heldInt64S.l0 k ((List.range l.length).map E) s i) l.length (fun i s => s = c + (i : Int)) ?_ ?_ c (by simp)
    · rintro i s hi rfl K
      have e : rd ((List.range l.length).map E) (i : Int) = E i := by
        rw [show rd ((List.range l.length).map E) (i : Int) = ((List.range l.length).map E)[i]'(by simpa using hi) from getD_at _ 0 i (by simpa using hi)]; simp
      refine EvP.step (fun k => laws_heldInt64S.l0.eq_2 _ _ _ k) ?_
      simp only [hl2, if_pos (show (i : Int) < (l.length : Int) by omega), if_pos (show (0 : Int) ≤ (i : Int) by omega), e, E, if_true, w64 (show -9223372036854775808 ≤ (i : Int) + 1 by omega) (by omega), w64 (show -9223372036854775808 ≤ c + (i : Int) + 1 by omega) (by omega)]
      exact K _ (by push_cast; omega)
    · rintro s rfl
      refine EvP.step (fun k => laws_heldInt64S.l0.eq_2 _ _ _ k) ?_
      simp only [hl2, if_neg (show ¬ (l.length : Int) < (l.length : Int) by omega)]
      exact EvP.now rfl
end Go.Proofs.Ytdphbanfheejoaa.SB
end

section
namespace Go.Proofs.Ytdphbanfheejoaa.SB
open Go.RowKit Go.Proofs.YtdphbanfheejoaaW.PrintWords Go.Proofs.Ytdphbanfheejoaa.XB Go.Proofs.Ytdphbanfheejoaa.EvK
set_option linter.unusedVariables false
set_option linter.unusedSimpArgs false
theorem markText_ev (c : Int) (h0 : 0 ≤ c) (h1 : c ≤ 4611686018427387904) : ∃ s : ByteArray, Ev (fun k => laws_markText.f k c) s := by
  unfold laws_markText.f
  by_cases hc : c ≤ 0
  · simp only [if_pos hc]
    exact ⟨_, Ev.now _⟩
  simp only [if_neg hc]
  have key : ∀ (d : Nat) (x : Int) (y : ByteArray), 0 ≤ x → x ≤ d → y.size + d ≤ 9223372036854775000 → ∃ s : ByteArray, Ev (fun k => laws_markText.l0 k x y) s := by
    intro d
    induction d using Nat.strongRecOn with
    | _ d ih =>
    intro x y hx hd hy
    by_cases hp : x > 0
    · have hz : (strOfNums [(wrap64 (48 + Int.tmod x 10)) % 256]).size = 1 := rfl
      have hd' : Int.tdiv x 10 = x / 10 := Int.tdiv_eq_ediv_of_nonneg hx
      have hw : wrap64 (Int.tdiv x 10) = x / 10 := by rw [hd', w64 (by omega) (by omega)]
      obtain ⟨s, hs⟩ := ih (d - 1) (by omega) (x / 10) (strOfNums [(wrap64 (48 + Int.tmod x 10)) % 256] ++ y) (by omega) (by omega) (by rw [ByteArray.size_append, hz]; omega)
      refine ⟨s, Ev.step (fun k => laws_markText.l0.eq_2 _ _ k) ?_⟩
      simp only [if_pos hp, Option.bind_some, hz, if_pos (show 1 + y.size ≤ 9223372036854775807 by omega), hw]
      exact hs
    · refine ⟨(⟨#[109]⟩ : ByteArray) ++ y, Ev.step (fun k => laws_markText.l0.eq_2 _ _ k) ?_⟩
      simp only [if_neg hp, if_pos (show 1 + y.size ≤ 9223372036854775807 by omega)]
      exact Ev.now _
  exact key c.toNat c ⟨#[]⟩ h0 (by omega) (by show 0 + _ ≤ _; omega)
end Go.Proofs.Ytdphbanfheejoaa.SB
end

section
namespace Go.Proofs.Ytdphbanfheejoaa.SB
open Go.RowKit Go.Proofs.YtdphbanfheejoaaW.PrintWords Go.Proofs.Ytdphbanfheejoaa.XB Go.Proofs.Ytdphbanfheejoaa.EvK
set_option linter.unusedVariables false
set_option linter.unusedSimpArgs false
theorem markStringS_ev (l : List ByteArray) (c : Int) (h0 : 0 ≤ c) (h1 : c + (l.length : Int) ≤ 4611686018427387904) :
    ∃ y : List ByteArray, Ev (fun k => laws_markStringS.f k l c) (c + (l.length : Int), y) ∧ y.length = l.length := by
  obtain ⟨T, hT⟩ : ∃ T : Int → ByteArray, ∀ x : Int, 0 ≤ x → x ≤ 4611686018427387904 → Ev (fun k => laws_markText.f k x) (T x) := ⟨fun x => if h : 0 ≤ x ∧ x ≤ 4611686018427387904 then Classical.choose (markText_ev x h.1 h.2) else ByteArray.empty, fun x h h' => by simp only [h, h', and_self, dif_pos]; exact Classical.choose_spec (markText_ev x h h')⟩
  let E : Nat → ByteArray := fun j => T (c + (j : Int))
  have hset : ∀ (i : Nat) (h : i < l.length), ((List.range i).map E ++ l.drop i).set i (E i) = (List.range (i + 1)).map E ++ l.drop (i + 1) := fun i h => set_done E l i h
  have hlen : ∀ (i : Nat), i ≤ l.length → ((List.range i).map E ++ l.drop i).length = l.length := by intro i h; simp; omega
  refine ⟨(List.range l.length).map E, EvP.eq ?_, by simp⟩
  · unfold laws_markStringS.f
    refine for_evp (L := fun k (s : List ByteArray × Int) i => laws_markStringS.l0 k s.1 s.2 i) l.length (fun i s => s = ((List.range i).map E ++ l.drop i, c + (i : Int))) ?_ ?_ (l, c) (by simp)
    · rintro i s hi rfl K
      refine EvP.step (fun k => laws_markStringS.l0.eq_2 _ _ _ k) ?_
      simp only [hlen i (by omega), if_pos (show (i : Int) < (l.length : Int) by omega), if_pos (show (0 : Int) ≤ (i : Int) by omega), Option.bind_some, w64 (show -9223372036854775808 ≤ (i : Int) + 1 by omega) (by omega), w64 (show -9223372036854775808 ≤ c + (i : Int) + 1 by omega) (by omega), Int.toNat_natCast]
      refine EvP.bind (hT (c + (i : Int)) (by omega) (by omega)) ?_
      refine K (_, _) ?_
      rw [← hset i hi, Prod.mk.injEq]
      refine ⟨?_, by push_cast; omega⟩
      have g1 := hlen i (by omega)
      generalize (List.range i).map E ++ l.drop i = L at g1
      have g2 : i < L.length := by omega
      first | rfl | (simp [E, getD_set_self, g2])
    · rintro s rfl
      refine EvP.step (fun k => laws_markStringS.l0.eq_2 _ _ _ k) ?_
      simp only [hlen l.length (Nat.le_refl _), if_neg (show ¬ (l.length : Int) < (l.length : Int) by omega)]
      exact EvP.now (by simp)
end Go.Proofs.Ytdphbanfheejoaa.SB
end

section
namespace Go.Proofs.Ytdphbanfheejoaa.PureFnExactFindLines
open Go.RowKit Go.Proofs.YtdphbanfheejoaaW.PrintWords Go.Proofs.Ytdphbanfheejoaa.XB Go.Proofs.Ytdphbanfheejoaa.EvK Go.Proofs.Ytdphbanfheejoaa.PBasics Go.Proofs.Ytdphbanfheejoaa.PFind Go.Proofs.Ytdphbanfheejoaa.LinesB Go.Proofs.Ytdphbanfheejoaa.SB
set_option linter.unusedVariables false
set_option linter.unusedSimpArgs false
theorem pure : laws_FnExactFindLines.Pure := by
  intro l w hq hw
  apply EvP.rounds
  unfold laws_FnExactFindLines.f
  by_cases hw1 : (w.size : Int) > 1048576
  · simp only [if_pos hw1]
    exact EvP.now rfl
  simp only [if_neg hw1]
  refine EvP.bindP (szStringS_ev l 1048576 (by omega) (by omega) hq) (fun t ⟨_, hs⟩ => ?_)
  by_cases hn : t < 0
  · simp only [if_pos hn]
    exact EvP.now rfl
  simp only [if_neg hn]
  obtain ⟨hs1, hs2⟩ := hs (by omega)
  have e : l.map toStringS_el = l := List.map_id l
  have hto := toStringS_ev l hs1
  rw [e] at hto
  have hf1 := specFind_ev l w hs1 hs2 (by omega)
  have hf2 := implFind_ev l w hs1 hs2 (by omega)
  have hlen : (findOf l w).1.length ≤ 1048576 := by
    have := found_len w l 0
    unfold findOf
    split
    · split
      · simp
      · simp only; omega
    · simp
  have hei := eqInt64S_ev (findOf l w).1 hlen
  have hes := eqStringS_ev l hs1
  obtain ⟨y, hy1, hy2, hy3⟩ := markInt64S_ev (findOf l w).1 1 (by omega) (by omega)
  obtain ⟨z, hz1, _⟩ := markStringS_ev l 1 (by omega) (by omega)
  generalize (findOf l w).2 = c at *
  refine EvP.bind hto (EvP.bind hf1 (EvP.bind hto (EvP.bind hf2 (EvP.bind hei ?_))))
  simp only [if_true, bne_self_eq_false]
  refine EvP.step (fun k => laws_FnExactFindLines.j0.eq_2 _ _ _ _ _ _ _ _ k) ?_
  simp only [Bool.false_eq_true, if_false]
  refine EvP.bind hto (EvP.bind hes ?_)
  simp only [if_true]
  refine EvP.bind hz1 ?_
  simp only [if_neg (show ¬ (1 + (l.length : Int) < 0) by omega)]
  refine EvP.bind hei ?_
  simp only [if_true, bne_self_eq_false]
  refine EvP.step (fun k => laws_FnExactFindLines.j1.eq_2 _ _ _ _ _ _ k) ?_
  simp only [Bool.false_eq_true, if_false]
  refine EvP.bind hy1 (EvP.bind hy2 ?_)
  simp only [if_neg (show ¬ (1 + ((findOf l w).1.length : Int) < 0) by omega), if_true]
  refine EvP.bind hto (EvP.bind hf2 (EvP.bind hei ?_))
  simp only [if_true, bne_self_eq_false]
  refine EvP.step (fun k => laws_FnExactFindLines.j2.eq_2 _ _ _ k) ?_
  simp only [Bool.false_eq_true, if_false]
  refine EvP.bind hy2 ?_
  simp only [if_neg (show ¬ (1 + ((findOf l w).1.length : Int) < 0) by omega), if_true]
  exact EvP.now rfl
end Go.Proofs.Ytdphbanfheejoaa.PureFnExactFindLines
end

section
namespace Go.Proofs.Ytdphbanfheejoaa.RowFnExactFindLines
open Go.ChangeShapes Go.WideShapes Go.ChangeAt Go.RowKit Go.Proofs.YtdphbanfheejoaaW.PrintWords Go.Proofs.Ytdphbanfheejoaa.XB Go.Proofs.Ytdphbanfheejoaa.Open
open Go.ChangeMaps (open_string shut_string)
set_option linter.unusedVariables false
theorem own : ownKnob Try.prog.godebug = none := by kernel_rfl
theorem laidOut : laidOutB Try.prog = true := by kernel_rfl
set_option maxRecDepth 100000 in
theorem lifted (os : Os) (started : os.Started) (H : Type) (enc : TypeId × Value → H) :
    ReturnsInHanded {} Try.checked os 14 .any (Rows.fnExactFindLinesSpec.pre6 enc Try.prog Try.f14 Rows.fnExactFindLinesRow.domain false) (Rows.fnExactFindLinesSpec.post enc Try.prog Try.f14 false true false false) := by
  refine returnsInHanded_of_change_shaped (C := Try.checked) own started (by kernel_rfl) Try.func14
    (ChangeSpec.witness6 (enc := enc) (C := Try.checked) false ⟨#[], #[(.slice none 0 0), (.string ⟨#[]⟩)], []⟩ 8 (by kernel_rfl) (by kernel_rfl) (by kernel_rfl) (by kernel_rfl)) ?_
  intro W base args ds gs before hval0 hW hcnd hsz0 hsh _
  have hsz : (DataW.weightsEach Try.prog (Try.f14.params.toList ++ Rows.fnExactFindLinesSpec.plain.varTypes Try.prog) (ds ++ gs)).all (· ≤ reachBytes) = true := hsz0
  have hval : ∀ (j : Nat) t v, Try.f14.params[j]? = some t → args[j]? = some v → Value.okWide Try.prog W .any base t v := hval0
  have hW' := hW
  obtain ⟨p, q, hA0, hV, rfl, hfz, hnd⟩ := hW
  have hA : DataW.TrodAll enc Try.prog W 0 (fun _ => true) true Try.f14.params.toList args.toList ds p := hA0
  rw [Try.params14] at hA hval hsz
  obtain ⟨v0, vs0, d0, ds0, p0, q0, hargs, rfl, rfl, h0, r0⟩ := trodAll_cons hA
  obtain ⟨v1, vs1, d1, ds1, p1, q1, rfl, rfl, rfl, h1, r1⟩ := trodAll_cons r0
  obtain ⟨rfl, rfl, rfl⟩ := trodAll_nil r1
  obtain rfl : args = #[v0, v1] := by cases args; simp_all
  obtain ⟨rfl, rfl⟩ := trodVars_none hV
  have kk0 := h0
  have lt0 : ∀ x ∈ p0, x.block < W.heap.size := by obtain ⟨m, hm⟩ := kk0; exact DataW.trod_lt m _ _ _ hm
  obtain ⟨A0, c0, a0, rfl, hc0, hr0, hq0⟩ := open_sl Try.underlying31 (by kernel_rfl) (Opens.string Try.underlying9 (by kernel_rfl)) (hval 0 31 v0 rfl rfl) h0
  obtain ⟨a1, rfl, rfl, rfl, y1⟩ := open_string Try.underlying9 (hval 1 9 v1 rfl rfl) h1
  have w1 : a1.size ≤ 140737488351232 := by
    have z := sized_string hsz (j := 1) (t := 9) rfl rfl
    rw [Array.length_toList] at z
    exact z
  obtain ⟨k, hp⟩ := PureFnExactFindLines.pure a0 a1 hq0 w1
  clear hA0 hval0 hsz0 hsz
  refine (laws_FnExactFindLines.calls k A0 c0 a0 a1 true W hr0 hc0 hsh hp).mono fun e W' ⟨he, bel0⟩ => ?_
  have bel : Below W.heap.size W W' := bel0
  subst he
  exact ⟨_, rfl, _, _, _, [], _, [], hW', trodAll_mk1 (shut_bool Try.underlying4 _), (trodAll_cons_mk (Below.trod laidOut (by kernel_rfl) (of_decide_eq_true (by kernel_rfl)) kk0 bel lt0) (trodAll_cons_mk (shut_string Try.underlying9 y1) trodAll_mk0)), rfl, bel.frame _, fun h => by cases h⟩
theorem over : Rows.fnExactFindLinesRow.holds Try.pinned (OpenSpec.ofChange Rows.fnExactFindLinesSpec) :=
  OpenClaim.holds_of_wide 14 Try.f14 rfl rfl rfl rfl rfl rfl rfl ⟨rfl, rfl, rfl, rfl, rfl⟩ rfl rfl rfl rfl rfl (by kernel_rfl) Try.func14 (by kernel_rfl)
    (of_decide_eq_true (by kernel_rfl)) (by unfold Func.isWrapper; first | (rw [if_pos (by decide +kernel)]; kernel_rfl) | (rw [if_neg (by decide +kernel)]; exact ⟨rfl, rfl⟩))
    (fun os started H enc _ => lifted os started H enc)
end Go.Proofs.Ytdphbanfheejoaa.RowFnExactFindLines
namespace Go.Proofs.Ytdphbanfheejoaa
theorem fnExactFindLines_holds : Rows.FnExactFindLinesSaid := RowFnExactFindLines.over
end Go.Proofs.Ytdphbanfheejoaa
end
