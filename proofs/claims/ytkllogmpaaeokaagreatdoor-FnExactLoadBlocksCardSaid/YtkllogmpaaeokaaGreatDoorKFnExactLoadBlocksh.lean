/- The law FnExactLoadBlocks: part 7 of its texts, joined (wip/pack.py). -/
import Derived.Test.YtkllogmpaaeokaaGreatDoorKFnExactLoadBlocksa
import Derived.Test.YtkllogmpaaeokaaGreatDoorKFnExactLoadBlocksb
import Derived.Test.YtkllogmpaaeokaaGreatDoorKFnExactLoadBlocksc
import Derived.Test.YtkllogmpaaeokaaGreatDoorKFnExactLoadBlocksd
import Derived.Test.YtkllogmpaaeokaaGreatDoorKFnExactLoadBlockse
import Derived.Test.YtkllogmpaaeokaaGreatDoorKFnExactLoadBlocksf
import Derived.Test.YtkllogmpaaeokaaGreatDoorKFnExactLoadBlocksg
import Derived.Deep.Slices
import Derived.SizedLaws
import Derived.ChangeArms
import Derived.WideShapes
import Derived.Lib.Strings
import Derived.Lib.IndexLaws
import Derived.Lib.IndexBytes
import Derived.Lib.IndexMore
import Derived.Laws.BitsLemmas
import Derived.Lib.SplitLaws
import Derived.Lib.CutLaws
import Derived.Lib.ParseIntBCases
import Derived.Lib.ItoaNum
import Derived.Lib.ItoaMem

section
namespace Go.Proofs.YtkllogmpaaeokaaGreatDoor.XT
open Go.RowKit Go.Proofs.YtkllogmpaaeokaaGreatDoorW.PrintWords Go.Proofs.YtkllogmpaaeokaaGreatDoorW.PrintLast Go.Proofs.YtkllogmpaaeokaaGreatDoorW.PrintMore
attribute [local go_sem] run_eql_slice_nil binOp_string_gtr' binOp_string_leq' binOp_string_geq' max2_int min2_int max_two min_two max_three min_three max_four min_four   -- for this text's walks alone
set_option linter.unusedVariables false
set_option linter.unusedSimpArgs false
mutual
def laws_FnExactLoadBlocks.j0 : Nat → ByteArray → List (S43) → Int → Int → List (S43) → Bool → Option (Bool)
  | 0, _, _, _, _, _, _ => none
  | k + 1, x0, x3, x4, x5, x6, x42 => if x42 = true then (some false) else ((laws_markBlockS.f k x6 1).bind fun bt263 => ((laws_heldBlockS.f k bt263.2 1).bind fun t265 => (if t265 < 0 then (some false) else (if t265 = bt263.1 then ((impl_LoadBlocks.f k x0).bind fun bt266 => ((laws_eqBlockS.f k bt266.1 x3).bind fun t271 => (if t271 = true then (if bt266.2.1 = x4 then (laws_FnExactLoadBlocks.j1 k bt263.2 bt263.1 (bt266.2.2 != x5)) else (laws_FnExactLoadBlocks.j1 k bt263.2 bt263.1 true)) else (laws_FnExactLoadBlocks.j1 k bt263.2 bt263.1 true)))) else (some false)))))
def laws_FnExactLoadBlocks.j1 : Nat → List (S43) → Int → Bool → Option (Bool)
  | 0, _, _, _ => none
  | k + 1, x6, x9, x73 => if x73 = true then (some false) else ((laws_heldBlockS.f k x6 1).bind fun t272 => (if t272 < 0 then (some false) else (if t272 = x9 then (some true) else (some false))))
end
def laws_FnExactLoadBlocks.f (k : Nat) (a0 : ByteArray) : Option (Bool) := if (a0.size : Int) > 1048576 then (some true) else ((spec_LoadBlocks.f k a0).bind fun bt252 => ((impl_LoadBlocks.f k a0).bind fun bt257 => ((laws_eqBlockS.f k bt257.1 bt252.1).bind fun t262 => (if t262 = true then (if bt257.2.1 = bt252.2.1 then (laws_FnExactLoadBlocks.j0 k a0 bt252.1 bt252.2.1 bt252.2.2 bt257.1 (bt257.2.2 != bt252.2.2)) else (laws_FnExactLoadBlocks.j0 k a0 bt252.1 bt252.2.1 bt252.2.2 bt257.1 true)) else (laws_FnExactLoadBlocks.j0 k a0 bt252.1 bt252.2.1 bt252.2.2 bt257.1 true)))))
set_option maxHeartbeats 8000000 in
set_option maxRecDepth 100000 in
theorem laws_FnExactLoadBlocks.calls (k : Nat) (a0 : ByteArray) (r : Bool) (w : World) (hSH : ShT Tryz.prog w) (h : laws_FnExactLoadBlocks.f k a0 = some r) :
    Calls Tryz.prog 3 #[.string a0] w fun e w' => e = .returned (.bool r) ∧ Below w.heap.size w w' := by
  have HB := Aside0.mk (Below.refl w.heap.size w)
  have HSH := Aside0.mk hSH
  clear hSH
  have H : (if (a0.size : Int) > 1048576 then (some true) else ((spec_LoadBlocks.f k a0).bind fun bt252 => ((impl_LoadBlocks.f k a0).bind fun bt257 => ((laws_eqBlockS.f k bt257.1 bt252.1).bind fun t262 => (if t262 = true then (if bt257.2.1 = bt252.2.1 then (laws_FnExactLoadBlocks.j0 k a0 bt252.1 bt252.2.1 bt252.2.2 bt257.1 (bt257.2.2 != bt252.2.2)) else (laws_FnExactLoadBlocks.j0 k a0 bt252.1 bt252.2.1 bt252.2.2 bt257.1 true)) else (laws_FnExactLoadBlocks.j0 k a0 bt252.1 bt252.2.1 bt252.2.2 bt257.1 true)))))) = some r := h
  clear h
  by_cases c2 : (a0.size : Int) > 1048576
  · rw [if_pos c2] at H
    have c2b0 : decide (1048576 < (a0.size : Int)) = true := decide_eq_true c2
    have c2b1 : decide (1048576 < a0.size) = true := decide_eq_true (by omega)
    clear c2
    obtain rfl := Option.some.inj H
    go_enter Tryz.func3, Tryz.ntmps3
    go_wp2
    go_ret
    exact ⟨by first | rfl | (simp [errW_none, errW_some] <;> rfl) | (simp [*, errW_none, errW_some] <;> rfl), by repeat (first | (with_reducible first | exact HB.out | apply below_alloc | apply pw_below_drewN | apply below_drew1) | exact HB.out)⟩
  · rw [if_neg c2] at H
    have c2b0 : decide (1048576 < (a0.size : Int)) = false := decide_eq_false c2
    have c2b1 : decide (1048576 < a0.size) = false := decide_eq_false (by omega)
    clear c2
    replace H := Option.bind_eq_some_iff.mp H
    obtain ⟨⟨t252, t253, t254⟩, A30, H⟩ := H
    replace H : ((impl_LoadBlocks.f k a0).bind fun bt257 => ((laws_eqBlockS.f k bt257.1 t252).bind fun t262 => (if t262 = true then (if bt257.2.1 = t253 then (laws_FnExactLoadBlocks.j0 k a0 t252 t253 t254 bt257.1 (bt257.2.2 != t254)) else (laws_FnExactLoadBlocks.j0 k a0 t252 t253 t254 bt257.1 true)) else (laws_FnExactLoadBlocks.j0 k a0 t252 t253 t254 bt257.1 true)))) = some r := H
    have A3 := Aside0.mk A30
    clear A30
    replace H := Option.bind_eq_some_iff.mp H
    obtain ⟨⟨t257, t258, t259⟩, A40, H⟩ := H
    replace H : ((laws_eqBlockS.f k t257 t252).bind fun t262 => (if t262 = true then (if t258 = t253 then (laws_FnExactLoadBlocks.j0 k a0 t252 t253 t254 t257 (t259 != t254)) else (laws_FnExactLoadBlocks.j0 k a0 t252 t253 t254 t257 true)) else (laws_FnExactLoadBlocks.j0 k a0 t252 t253 t254 t257 true))) = some r := H
    have A4 := Aside0.mk A40
    clear A40
    have HC5 := Aside0.mk H
    clear H
    go_enter Tryz.func3, Tryz.ntmps3
    go_upto_region 5 with (first | ((with_reducible refine gate_callee (f := 5) rfl ?_); refine goesL_ (some 19) rfl rfl Tryz.func5 (by kernel_rfl) rfl #[.string a0] rfl (by (try simp only [List.map_toArray, List.map_cons, List.map_nil]); first | done | rfl | (simp only [List.length_drop, List.length_take]; rfl)) ?_; (with_reducible refine (spec_LoadBlocks.calls k a0 t252 t253 t254 _ A3.out).mono ?_); rintro e w6 ⟨v255, rfl, ho0, hb⟩; refine ⟨_, rfl, ?_⟩; have n0_ := Aside0.mk (Kd.R_lower ho0 (below_size (by repeat (first | (with_reducible first | exact HB.out | apply below_alloc | apply pw_below_drewN | apply below_drew1) | exact HB.out)))); have n1_ := Aside0.mk (below_step (by repeat (first | (with_reducible first | exact HB.out | apply below_alloc | apply pw_below_drewN | apply below_drew1) | exact HB.out)) hb); clear HB; have HO256 := n0_; have HB := n1_; clear n0_ n1_; (try clear hb); (try clear hb2); (try clear hk); (try clear hi); (try clear ho0)) | ((with_reducible refine gate_callee (f := 6) rfl ?_); refine goesL_ (some 25) rfl rfl Tryz.func6 (by kernel_rfl) rfl #[.string a0] rfl (by (try simp only [List.map_toArray, List.map_cons, List.map_nil]); first | done | rfl | (simp only [List.length_drop, List.length_take]; rfl)) ?_; (with_reducible refine (impl_LoadBlocks.calls k a0 t257 t258 t259 _ ?side1 A4.out).mono ?_); (case side1 => exact HSH.out.below (show Below w.heap.size w _ from by repeat (first | (with_reducible first | exact HB.out | apply below_alloc | apply pw_below_drewN | apply below_drew1) | exact HB.out))); rintro e w7 ⟨v260, rfl, ho0, hb⟩; refine ⟨_, rfl, ?_⟩; have n0_ := Aside0.mk (Kd.R_elder' (by (with_reducible repeat (first | apply Kd.R_alloc | apply Kd.R_drewN | apply Kd.R_drew)); exact HO256.out) (Kd.R_base ho0) hb); have n1_ := Aside0.mk (Kd.R_lower (Kd.R_new' ho0 (Kd.R_lt (by (with_reducible repeat (first | apply Kd.R_alloc | apply Kd.R_drewN | apply Kd.R_drew)); exact HO256.out))) (below_size (by repeat (first | (with_reducible first | exact HB.out | apply below_alloc | apply pw_below_drewN | apply below_drew1) | exact HB.out)))); have n2_ := Aside0.mk (below_step (by repeat (first | (with_reducible first | exact HB.out | apply below_alloc | apply pw_below_drewN | apply below_drew1) | exact HB.out)) hb); clear HO256; clear HB; have HO256 := n0_; have HO261 := n1_; have HB := n2_; clear n0_ n1_ n2_; (try clear hb); (try clear hb2); (try clear hk); (try clear hi); (try clear ho0)))
    (try simp only [Act.put, List.setIfInBounds_toArray, List.set_cons_zero, List.set_cons_succ])
    go_cut [42] (fun v42 wc => ∃ (kq : Nat) (x42_4 : Bool), v42 = .bool x42_4 ∧ Aside0 (laws_FnExactLoadBlocks.j0 kq a0 t252 t253 t254 t257 x42_4 = some r) ∧ Aside0 (kq ≤ k) ∧ Aside0 (Kd.R k43 43 wc w.heap.size (fun k_ => some k_ ≠ (v260 : Value).ownBlock) v255 t252) ∧ Aside0 (Kd.R k43 43 wc w.heap.size (fun k_ => some k_ ≠ (v255 : Value).ownBlock) v260 t257) ∧ Aside0 (Below w.heap.size w wc))
    case first =>
      have H := HC5.out
      clear HC5
      replace H := Option.bind_eq_some_iff.mp H
      obtain ⟨t262, A80, H⟩ := H
      replace H : (if t262 = true then (if t258 = t253 then (laws_FnExactLoadBlocks.j0 k a0 t252 t253 t254 t257 (t259 != t254)) else (laws_FnExactLoadBlocks.j0 k a0 t252 t253 t254 t257 true)) else (laws_FnExactLoadBlocks.j0 k a0 t252 t253 t254 t257 true)) = some r := H
      have A8 := Aside0.mk A80
      clear A80
      by_cases c9 : t262 = true
      · subst c9
        have H1 : (if t258 = t253 then (laws_FnExactLoadBlocks.j0 k a0 t252 t253 t254 t257 (t259 != t254)) else (laws_FnExactLoadBlocks.j0 k a0 t252 t253 t254 t257 true)) = some r := by rw [if_pos rfl] at H; exact H
        clear H
        have H := H1
        clear H1
        by_cases c10 : t258 = t253
        · rw [if_pos c10] at H
          have c10b0 : (t258 == t253) = true := beq_iff_eq.mpr c10
          have c10b1 : (t258 != t253) = false := bne_eq_false_iff_eq.mpr c10
          clear c10
          (first | rw [c10b0] | (simp only [i64_w, i32_w]; rw [c10b0]) | skip)
          have H' := Aside0.mk H
          clear H
          obtain ⟨Ao11, co11, eo11⟩ := Kd.R_slice HO261.out
          subst eo11
          obtain ⟨Ao12, co12, eo12⟩ := Kd.R_slice HO256.out
          subst eo12
          go_wp2_with (first | ((with_reducible refine gate_callee (f := 7) rfl ?_); refine goesL_ (some 31) rfl rfl Tryz.func7 (by kernel_rfl) rfl #[.slice Ao11 t257.length co11, .slice Ao12 t252.length co12] rfl (by (try simp only [List.map_toArray, List.map_cons, List.map_nil]); first | done | rfl | (simp only [List.length_drop, List.length_take]; rfl)) ?_; (with_reducible refine (laws_eqBlockS.calls k _ _ t257 _ _ t252 true _ ?side1 ?side2 ?side3 ?side4 A8.out).mono ?_); (case side1 => repeat (first | exact (Kd.R_reads' HO261.out).2.2 | (with_reducible refine Kd.C_alloc ?_ _) | (with_reducible refine Kd.C_drewN ?_ _) | (with_reducible refine Kd.C_drew ?_))); (case side2 => exact (Kd.R_reads' HO261.out).2.1); (case side3 => repeat (first | exact (Kd.R_reads' HO256.out).2.2 | (with_reducible refine Kd.C_alloc ?_ _) | (with_reducible refine Kd.C_drewN ?_ _) | (with_reducible refine Kd.C_drew ?_))); (case side4 => exact (Kd.R_reads' HO256.out).2.1); rintro e w13 ⟨rfl, hb⟩; refine ⟨_, rfl, ?_⟩; have n0_ := Aside0.mk (Kd.R_below (by (with_reducible repeat (first | apply Kd.R_alloc | apply Kd.R_drewN | apply Kd.R_drew)); exact HO256.out) hb); have n1_ := Aside0.mk (Kd.R_below (by (with_reducible repeat (first | apply Kd.R_alloc | apply Kd.R_drewN | apply Kd.R_drew)); exact HO261.out) hb); have n2_ := Aside0.mk (below_step (by repeat (first | (with_reducible first | exact HB.out | apply below_alloc | apply pw_below_drewN | apply below_drew1) | exact HB.out)) hb); clear HO256; clear HO261; clear HB; have HO256 := n0_; have HO261 := n1_; have HB := n2_; clear n0_ n1_ n2_; (try clear hb); (try clear hb2); (try clear hk); (try clear hi)))
          go_meet
          case rel => exact ⟨_, ((t259 != t254)), (by first | rfl | (simp; done) | (simp [*]; done)), H', ⟨by first | omega | exact Nat.le_refl _⟩, ⟨by (with_reducible repeat (first | apply Kd.R_alloc | apply Kd.R_drewN | apply Kd.R_drew)); exact Kd.R_mono HO256.out (fun _ hk => hk.2)⟩, ⟨by (with_reducible repeat (first | apply Kd.R_alloc | apply Kd.R_drewN | apply Kd.R_drew)); exact Kd.R_mono HO261.out (fun _ hk => hk.2)⟩, ⟨by repeat (first | (with_reducible first | exact HB.out | apply below_alloc | apply pw_below_drewN | apply below_drew1) | exact HB.out)⟩⟩
        · rw [if_neg c10] at H
          have c10b0 : (t258 == t253) = false := beq_eq_false_iff_ne.mpr c10
          have c10b1 : (t258 != t253) = true := bne_iff_ne.mpr c10
          (first | rw [c10b0] | (simp only [i64_w, i32_w]; rw [c10b0]) | skip)
          have H' := Aside0.mk H
          clear H
          obtain ⟨Ao14, co14, eo14⟩ := Kd.R_slice HO261.out
          subst eo14
          obtain ⟨Ao15, co15, eo15⟩ := Kd.R_slice HO256.out
          subst eo15
          go_wp2_with (first | ((with_reducible refine gate_callee (f := 7) rfl ?_); refine goesL_ (some 31) rfl rfl Tryz.func7 (by kernel_rfl) rfl #[.slice Ao14 t257.length co14, .slice Ao15 t252.length co15] rfl (by (try simp only [List.map_toArray, List.map_cons, List.map_nil]); first | done | rfl | (simp only [List.length_drop, List.length_take]; rfl)) ?_; (with_reducible refine (laws_eqBlockS.calls k _ _ t257 _ _ t252 true _ ?side1 ?side2 ?side3 ?side4 A8.out).mono ?_); (case side1 => repeat (first | exact (Kd.R_reads' HO261.out).2.2 | (with_reducible refine Kd.C_alloc ?_ _) | (with_reducible refine Kd.C_drewN ?_ _) | (with_reducible refine Kd.C_drew ?_))); (case side2 => exact (Kd.R_reads' HO261.out).2.1); (case side3 => repeat (first | exact (Kd.R_reads' HO256.out).2.2 | (with_reducible refine Kd.C_alloc ?_ _) | (with_reducible refine Kd.C_drewN ?_ _) | (with_reducible refine Kd.C_drew ?_))); (case side4 => exact (Kd.R_reads' HO256.out).2.1); rintro e w16 ⟨rfl, hb⟩; refine ⟨_, rfl, ?_⟩; have n0_ := Aside0.mk (Kd.R_below (by (with_reducible repeat (first | apply Kd.R_alloc | apply Kd.R_drewN | apply Kd.R_drew)); exact HO256.out) hb); have n1_ := Aside0.mk (Kd.R_below (by (with_reducible repeat (first | apply Kd.R_alloc | apply Kd.R_drewN | apply Kd.R_drew)); exact HO261.out) hb); have n2_ := Aside0.mk (below_step (by repeat (first | (with_reducible first | exact HB.out | apply below_alloc | apply pw_below_drewN | apply below_drew1) | exact HB.out)) hb); clear HO256; clear HO261; clear HB; have HO256 := n0_; have HO261 := n1_; have HB := n2_; clear n0_ n1_ n2_; (try clear hb); (try clear hb2); (try clear hk); (try clear hi)))
          go_meet
          case rel => exact ⟨_, (true), (by first | rfl | (simp; done) | (simp [*]; done)), H', ⟨by first | omega | exact Nat.le_refl _⟩, ⟨by (with_reducible repeat (first | apply Kd.R_alloc | apply Kd.R_drewN | apply Kd.R_drew)); exact Kd.R_mono HO256.out (fun _ hk => hk.2)⟩, ⟨by (with_reducible repeat (first | apply Kd.R_alloc | apply Kd.R_drewN | apply Kd.R_drew)); exact Kd.R_mono HO261.out (fun _ hk => hk.2)⟩, ⟨by repeat (first | (with_reducible first | exact HB.out | apply below_alloc | apply pw_below_drewN | apply below_drew1) | exact HB.out)⟩⟩
      · replace c9 := Bool.eq_false_iff.mpr c9
        subst c9
        have H1 : (laws_FnExactLoadBlocks.j0 k a0 t252 t253 t254 t257 true) = some r := by rw [if_neg (show ¬ (false = true) by decide)] at H; exact H
        clear H
        have H := H1
        clear H1
        have H' := Aside0.mk H
        clear H
        obtain ⟨Ao17, co17, eo17⟩ := Kd.R_slice HO261.out
        subst eo17
        obtain ⟨Ao18, co18, eo18⟩ := Kd.R_slice HO256.out
        subst eo18
        go_wp2_with (first | ((with_reducible refine gate_callee (f := 7) rfl ?_); refine goesL_ (some 31) rfl rfl Tryz.func7 (by kernel_rfl) rfl #[.slice Ao17 t257.length co17, .slice Ao18 t252.length co18] rfl (by (try simp only [List.map_toArray, List.map_cons, List.map_nil]); first | done | rfl | (simp only [List.length_drop, List.length_take]; rfl)) ?_; (with_reducible refine (laws_eqBlockS.calls k _ _ t257 _ _ t252 false _ ?side1 ?side2 ?side3 ?side4 A8.out).mono ?_); (case side1 => repeat (first | exact (Kd.R_reads' HO261.out).2.2 | (with_reducible refine Kd.C_alloc ?_ _) | (with_reducible refine Kd.C_drewN ?_ _) | (with_reducible refine Kd.C_drew ?_))); (case side2 => exact (Kd.R_reads' HO261.out).2.1); (case side3 => repeat (first | exact (Kd.R_reads' HO256.out).2.2 | (with_reducible refine Kd.C_alloc ?_ _) | (with_reducible refine Kd.C_drewN ?_ _) | (with_reducible refine Kd.C_drew ?_))); (case side4 => exact (Kd.R_reads' HO256.out).2.1); rintro e w19 ⟨rfl, hb⟩; refine ⟨_, rfl, ?_⟩; have n0_ := Aside0.mk (Kd.R_below (by (with_reducible repeat (first | apply Kd.R_alloc | apply Kd.R_drewN | apply Kd.R_drew)); exact HO256.out) hb); have n1_ := Aside0.mk (Kd.R_below (by (with_reducible repeat (first | apply Kd.R_alloc | apply Kd.R_drewN | apply Kd.R_drew)); exact HO261.out) hb); have n2_ := Aside0.mk (below_step (by repeat (first | (with_reducible first | exact HB.out | apply below_alloc | apply pw_below_drewN | apply below_drew1) | exact HB.out)) hb); clear HO256; clear HO261; clear HB; have HO256 := n0_; have HO261 := n1_; have HB := n2_; clear n0_ n1_ n2_; (try clear hb); (try clear hb2); (try clear hk); (try clear hi)))
        go_meet
        case rel => exact ⟨_, (true), (by first | rfl | (simp; done) | (simp [*]; done)), H', ⟨by first | omega | exact Nat.le_refl _⟩, ⟨by (with_reducible repeat (first | apply Kd.R_alloc | apply Kd.R_drewN | apply Kd.R_drew)); exact Kd.R_mono HO256.out (fun _ hk => hk.2)⟩, ⟨by (with_reducible repeat (first | apply Kd.R_alloc | apply Kd.R_drewN | apply Kd.R_drew)); exact Kd.R_mono HO261.out (fun _ hk => hk.2)⟩, ⟨by repeat (first | (with_reducible first | exact HB.out | apply below_alloc | apply pw_below_drewN | apply below_drew1) | exact HB.out)⟩⟩
    case rest =>
      clear HC5
      try clear c1
      try clear c2
      try clear c2b0
      try clear c2b1
      try clear p2
      try clear c3
      try clear c5
      try clear c6
      try clear c7
      try clear c9
      try clear c10
      try clear c10b0
      try clear c10b1
      obtain ⟨kq, x42_4, rfl, HA, HJ4, HO_3, HO_6, HB⟩ := hcut
      cases kq with
      | zero => exact absurd HA.out (by simp [laws_FnExactLoadBlocks.j0])
      | succ kj4 =>
        have H := HA.out
        clear HA
        simp only [laws_FnExactLoadBlocks.j0] at H
        by_cases c20 : x42_4 = true
        · subst c20
          have H1 : (some false) = some r := by rw [if_pos rfl] at H; exact H
          clear H
          have H := H1
          clear H1
          obtain rfl := Option.some.inj H
          go_wp2
          go_ret
          exact ⟨by first | rfl | (simp [errW_none, errW_some] <;> rfl) | (simp [*, errW_none, errW_some] <;> rfl), by repeat (first | (with_reducible first | exact HB.out | apply below_alloc | apply pw_below_drewN | apply below_drew1) | exact HB.out)⟩
        · replace c20 := Bool.eq_false_iff.mpr c20
          subst c20
          have H1 : ((laws_markBlockS.f kj4 t257 1).bind fun bt263 => ((laws_heldBlockS.f kj4 bt263.2 1).bind fun t265 => (if t265 < 0 then (some false) else (if t265 = bt263.1 then ((impl_LoadBlocks.f kj4 a0).bind fun bt266 => ((laws_eqBlockS.f kj4 bt266.1 t252).bind fun t271 => (if t271 = true then (if bt266.2.1 = t253 then (laws_FnExactLoadBlocks.j1 kj4 bt263.2 bt263.1 (bt266.2.2 != t254)) else (laws_FnExactLoadBlocks.j1 kj4 bt263.2 bt263.1 true)) else (laws_FnExactLoadBlocks.j1 kj4 bt263.2 bt263.1 true)))) else (some false))))) = some r := by rw [if_neg (show ¬ (false = true) by decide)] at H; exact H
          clear H
          have H := H1
          clear H1
          replace H := Option.bind_eq_some_iff.mp H
          obtain ⟨⟨t263, t264⟩, A210, H⟩ := H
          replace H : ((laws_heldBlockS.f kj4 t264 1).bind fun t265 => (if t265 < 0 then (some false) else (if t265 = t263 then ((impl_LoadBlocks.f kj4 a0).bind fun bt266 => ((laws_eqBlockS.f kj4 bt266.1 t252).bind fun t271 => (if t271 = true then (if bt266.2.1 = t253 then (laws_FnExactLoadBlocks.j1 kj4 t264 t263 (bt266.2.2 != t254)) else (laws_FnExactLoadBlocks.j1 kj4 t264 t263 true)) else (laws_FnExactLoadBlocks.j1 kj4 t264 t263 true)))) else (some false)))) = some r := H
          have A21 := Aside0.mk A210
          clear A210
          replace H := Option.bind_eq_some_iff.mp H
          obtain ⟨t265, A220, H⟩ := H
          replace H : (if t265 < 0 then (some false) else (if t265 = t263 then ((impl_LoadBlocks.f kj4 a0).bind fun bt266 => ((laws_eqBlockS.f kj4 bt266.1 t252).bind fun t271 => (if t271 = true then (if bt266.2.1 = t253 then (laws_FnExactLoadBlocks.j1 kj4 t264 t263 (bt266.2.2 != t254)) else (laws_FnExactLoadBlocks.j1 kj4 t264 t263 true)) else (laws_FnExactLoadBlocks.j1 kj4 t264 t263 true)))) else (some false))) = some r := H
          have A22 := Aside0.mk A220
          clear A220
          by_cases c23 : t265 < 0
          · rw [if_pos c23] at H
            have c23b0 : decide (t265 < 0) = true := decide_eq_true c23
            clear c23
            obtain rfl := Option.some.inj H
            obtain ⟨Ao24, co24, eo24⟩ := Kd.R_slice HO_6.out
            subst eo24
            go_wp2_with (first | ((with_reducible refine gate_callee (f := 8) rfl ?_); refine goesL_ (some 45) rfl rfl Tryz.func8 (by kernel_rfl) rfl #[.slice Ao24 t257.length co24, .int .i64 1] rfl (by (try simp only [List.map_toArray, List.map_cons, List.map_nil]); first | done | rfl | (simp only [List.length_drop, List.length_take]; rfl)) ?_; (with_reducible refine (laws_markBlockS.calls kj4 (fun k_ => some k_ = (.slice Ao24 t257.length co24 : Value).ownBlock) (.slice Ao24 t257.length co24) t257 1 t263 t264 w _ ?side1 ?side2 A21.out).mono ?_); (case side1 => repeat (first | (with_reducible first | exact HB.out | apply below_alloc | apply pw_below_drewN | apply below_drew1) | exact HB.out)); (case side2 => exact Kd.R_tight rfl HO_6.out); rintro e w25 ⟨rfl, hy0, hb, hkp⟩; refine ⟨_, rfl, ?_⟩; have n0_ := Aside0.mk (Kd.R_mono (ok' := fun k_ => some k_ ≠ (.slice Ao24 t257.length co24 : Value).ownBlock) (Kd.R_keptB (HO_3.out) hkp (fun k_ hk_ hs_ => (hk_) hs_)) (fun k_ hk_ => hk_.1)); have n1_ := Aside0.mk (Kd.R_reok rfl hy0 (fun k_ e_ => HO_6.out.1 k_ e_)); have n2_ := Aside0.mk (hb); clear HO_3; clear HO_6; clear HB; have HO_3 := n0_; have HO_6 := n1_; have HB := n2_; clear n0_ n1_ n2_; (try clear hb); (try clear hkp); (try clear hy0)) | ((with_reducible refine gate_callee (f := 9) rfl ?_); refine goesL_ (some 48) rfl rfl Tryz.func9 (by kernel_rfl) rfl #[.slice Ao24 t264.length co24, .int .i64 1] rfl (by (try simp only [List.map_toArray, List.map_cons, List.map_nil]); first | done | (rw [show t264.length = t257.length from (Kd.R_reads' HO_6.out).1.symm] <;> rfl) | rfl | (simp only [List.length_drop, List.length_take]; rfl)) ?_; (with_reducible refine (laws_heldBlockS.calls kj4 _ _ t264 1 t265 _ ?side1 ?side2 A22.out).mono ?_); (case side1 => repeat (first | exact (Kd.R_reads' HO_6.out).2.2 | (with_reducible refine Kd.C_alloc ?_ _) | (with_reducible refine Kd.C_drewN ?_ _) | (with_reducible refine Kd.C_drew ?_))); (case side2 => rw [show t264.length = t257.length from (Kd.R_reads' HO_6.out).1.symm]; exact (Kd.R_reads' HO_6.out).2.1); rintro e w26 ⟨rfl, hb⟩; refine ⟨_, rfl, ?_⟩; have n0_ := Aside0.mk (Kd.R_below (by (with_reducible repeat (first | apply Kd.R_alloc | apply Kd.R_drewN | apply Kd.R_drew)); exact HO_3.out) hb); have n1_ := Aside0.mk (Kd.R_below (by (with_reducible repeat (first | apply Kd.R_alloc | apply Kd.R_drewN | apply Kd.R_drew)); exact HO_6.out) hb); have n2_ := Aside0.mk (below_step (by repeat (first | (with_reducible first | exact HB.out | apply below_alloc | apply pw_below_drewN | apply below_drew1) | exact HB.out)) hb); clear HO_3; clear HO_6; clear HB; have HO_3 := n0_; have HO_6 := n1_; have HB := n2_; clear n0_ n1_ n2_; (try clear hb); (try clear hb2); (try clear hk); (try clear hi)))
            go_ret
            exact ⟨by first | rfl | (simp [errW_none, errW_some] <;> rfl) | (simp [*, errW_none, errW_some] <;> rfl), by repeat (first | (with_reducible first | exact HB.out | apply below_alloc | apply pw_below_drewN | apply below_drew1) | exact HB.out)⟩
          · rw [if_neg c23] at H
            have c23b0 : decide (t265 < 0) = false := decide_eq_false c23
            clear c23
            by_cases c27 : t265 = t263
            · rw [if_pos c27] at H
              have c27b0 : (t265 == t263) = true := beq_iff_eq.mpr c27
              have c27b1 : (t265 != t263) = false := bne_eq_false_iff_eq.mpr c27
              clear c27
              replace H := Option.bind_eq_some_iff.mp H
              obtain ⟨⟨t266, t267, t268⟩, A280, H⟩ := H
              replace H : ((laws_eqBlockS.f kj4 t266 t252).bind fun t271 => (if t271 = true then (if t267 = t253 then (laws_FnExactLoadBlocks.j1 kj4 t264 t263 (t268 != t254)) else (laws_FnExactLoadBlocks.j1 kj4 t264 t263 true)) else (laws_FnExactLoadBlocks.j1 kj4 t264 t263 true))) = some r := H
              have A28 := Aside0.mk A280
              clear A280
              have HC29 := Aside0.mk H
              clear H
              obtain ⟨Ao30, co30, eo30⟩ := Kd.R_slice HO_6.out
              subst eo30
              go_upto_region 16 with (first | ((with_reducible refine gate_callee (f := 8) rfl ?_); refine goesL_ (some 45) rfl rfl Tryz.func8 (by kernel_rfl) rfl #[.slice Ao30 t257.length co30, .int .i64 1] rfl (by (try simp only [List.map_toArray, List.map_cons, List.map_nil]); first | done | rfl | (simp only [List.length_drop, List.length_take]; rfl)) ?_; (with_reducible refine (laws_markBlockS.calls kj4 (fun k_ => some k_ = (.slice Ao30 t257.length co30 : Value).ownBlock) (.slice Ao30 t257.length co30) t257 1 t263 t264 w _ ?side1 ?side2 A21.out).mono ?_); (case side1 => repeat (first | (with_reducible first | exact HB.out | apply below_alloc | apply pw_below_drewN | apply below_drew1) | exact HB.out)); (case side2 => exact Kd.R_tight rfl HO_6.out); rintro e w31 ⟨rfl, hy0, hb, hkp⟩; refine ⟨_, rfl, ?_⟩; have n0_ := Aside0.mk (Kd.R_mono (ok' := fun k_ => some k_ ≠ (.slice Ao30 t257.length co30 : Value).ownBlock) (Kd.R_keptB (HO_3.out) hkp (fun k_ hk_ hs_ => (hk_) hs_)) (fun k_ hk_ => hk_.1)); have n1_ := Aside0.mk (Kd.R_reok rfl hy0 (fun k_ e_ => HO_6.out.1 k_ e_)); have n2_ := Aside0.mk (hb); clear HO_3; clear HO_6; clear HB; have HO_3 := n0_; have HO_6 := n1_; have HB := n2_; clear n0_ n1_ n2_; (try clear hb); (try clear hkp); (try clear hy0)) | ((with_reducible refine gate_callee (f := 9) rfl ?_); refine goesL_ (some 48) rfl rfl Tryz.func9 (by kernel_rfl) rfl #[.slice Ao30 t264.length co30, .int .i64 1] rfl (by (try simp only [List.map_toArray, List.map_cons, List.map_nil]); first | done | (rw [show t264.length = t257.length from (Kd.R_reads' HO_6.out).1.symm] <;> rfl) | rfl | (simp only [List.length_drop, List.length_take]; rfl)) ?_; (with_reducible refine (laws_heldBlockS.calls kj4 _ _ t264 1 t265 _ ?side1 ?side2 A22.out).mono ?_); (case side1 => repeat (first | exact (Kd.R_reads' HO_6.out).2.2 | (with_reducible refine Kd.C_alloc ?_ _) | (with_reducible refine Kd.C_drewN ?_ _) | (with_reducible refine Kd.C_drew ?_))); (case side2 => rw [show t264.length = t257.length from (Kd.R_reads' HO_6.out).1.symm]; exact (Kd.R_reads' HO_6.out).2.1); rintro e w32 ⟨rfl, hb⟩; refine ⟨_, rfl, ?_⟩; have n0_ := Aside0.mk (Kd.R_below (by (with_reducible repeat (first | apply Kd.R_alloc | apply Kd.R_drewN | apply Kd.R_drew)); exact HO_3.out) hb); have n1_ := Aside0.mk (Kd.R_below (by (with_reducible repeat (first | apply Kd.R_alloc | apply Kd.R_drewN | apply Kd.R_drew)); exact HO_6.out) hb); have n2_ := Aside0.mk (below_step (by repeat (first | (with_reducible first | exact HB.out | apply below_alloc | apply pw_below_drewN | apply below_drew1) | exact HB.out)) hb); clear HO_3; clear HO_6; clear HB; have HO_3 := n0_; have HO_6 := n1_; have HB := n2_; clear n0_ n1_ n2_; (try clear hb); (try clear hb2); (try clear hk); (try clear hi)) | ((with_reducible refine gate_callee (f := 6) rfl ?_); refine goesL_ (some 56) rfl rfl Tryz.func6 (by kernel_rfl) rfl #[.string a0] rfl (by (try simp only [List.map_toArray, List.map_cons, List.map_nil]); first | done | rfl | (simp only [List.length_drop, List.length_take]; rfl)) ?_; (with_reducible refine (impl_LoadBlocks.calls kj4 a0 t266 t267 t268 _ ?side1 A28.out).mono ?_); (case side1 => exact HSH.out.below (show Below w.heap.size w _ from by repeat (first | (with_reducible first | exact HB.out | apply below_alloc | apply pw_below_drewN | apply below_drew1) | exact HB.out))); rintro e w33 ⟨v269, rfl, ho0, hb⟩; refine ⟨_, rfl, ?_⟩; have n0_ := Aside0.mk (Kd.R_elder' (by (with_reducible repeat (first | apply Kd.R_alloc | apply Kd.R_drewN | apply Kd.R_drew)); exact HO_3.out) (Kd.R_base ho0) hb); have n1_ := Aside0.mk (Kd.R_elder' (by (with_reducible repeat (first | apply Kd.R_alloc | apply Kd.R_drewN | apply Kd.R_drew)); exact HO_6.out) (Kd.R_base ho0) hb); have n2_ := Aside0.mk (Kd.R_lower (Kd.R_new' (Kd.R_new' ho0 (Kd.R_lt (by (with_reducible repeat (first | apply Kd.R_alloc | apply Kd.R_drewN | apply Kd.R_drew)); exact HO_3.out))) (Kd.R_lt (by (with_reducible repeat (first | apply Kd.R_alloc | apply Kd.R_drewN | apply Kd.R_drew)); exact HO_6.out))) (below_size (by repeat (first | (with_reducible first | exact HB.out | apply below_alloc | apply pw_below_drewN | apply below_drew1) | exact HB.out)))); have n3_ := Aside0.mk (below_step (by repeat (first | (with_reducible first | exact HB.out | apply below_alloc | apply pw_below_drewN | apply below_drew1) | exact HB.out)) hb); clear HO_3; clear HO_6; clear HB; have HO_3 := n0_; have HO_6 := n1_; have HO270 := n2_; have HB := n3_; clear n0_ n1_ n2_ n3_; (try clear hb); (try clear hb2); (try clear hk); (try clear hi); (try clear ho0)))
              (try simp only [Act.put, List.setIfInBounds_toArray, List.set_cons_zero, List.set_cons_succ])
              go_cut [73] (fun v73 wc => ∃ (kq : Nat) (x73_28 : Bool), v73 = .bool x73_28 ∧ Aside0 (laws_FnExactLoadBlocks.j1 kq t264 t263 x73_28 = some r) ∧ Aside0 (kq ≤ kj4) ∧ Aside0 (Kd.R k43 43 wc w.heap.size (fun _ => True) (.slice Ao30 t257.length co30) t264) ∧ Aside0 (Below w.heap.size w wc))
              case first =>
                have H := HC29.out
                clear HC29
                replace H := Option.bind_eq_some_iff.mp H
                obtain ⟨t271, A340, H⟩ := H
                replace H : (if t271 = true then (if t267 = t253 then (laws_FnExactLoadBlocks.j1 kj4 t264 t263 (t268 != t254)) else (laws_FnExactLoadBlocks.j1 kj4 t264 t263 true)) else (laws_FnExactLoadBlocks.j1 kj4 t264 t263 true)) = some r := H
                have A34 := Aside0.mk A340
                clear A340
                by_cases c35 : t271 = true
                · subst c35
                  have H1 : (if t267 = t253 then (laws_FnExactLoadBlocks.j1 kj4 t264 t263 (t268 != t254)) else (laws_FnExactLoadBlocks.j1 kj4 t264 t263 true)) = some r := by rw [if_pos rfl] at H; exact H
                  clear H
                  have H := H1
                  clear H1
                  by_cases c36 : t267 = t253
                  · rw [if_pos c36] at H
                    have c36b0 : (t267 == t253) = true := beq_iff_eq.mpr c36
                    have c36b1 : (t267 != t253) = false := bne_eq_false_iff_eq.mpr c36
                    clear c36
                    (first | rw [c36b0] | (simp only [i64_w, i32_w]; rw [c36b0]) | skip)
                    have H' := Aside0.mk H
                    clear H
                    obtain ⟨Ao37, co37, eo37⟩ := Kd.R_slice HO270.out
                    subst eo37
                    obtain ⟨Ao38, co38, eo38⟩ := Kd.R_slice HO_3.out
                    subst eo38
                    go_wp2_with (first | ((with_reducible refine gate_callee (f := 7) rfl ?_); refine goesL_ (some 62) rfl rfl Tryz.func7 (by kernel_rfl) rfl #[.slice Ao37 t266.length co37, .slice Ao38 t252.length co38] rfl (by (try simp only [List.map_toArray, List.map_cons, List.map_nil]); first | done | rfl | (simp only [List.length_drop, List.length_take]; rfl)) ?_; (with_reducible refine (laws_eqBlockS.calls kj4 _ _ t266 _ _ t252 true _ ?side1 ?side2 ?side3 ?side4 A34.out).mono ?_); (case side1 => repeat (first | exact (Kd.R_reads' HO270.out).2.2 | (with_reducible refine Kd.C_alloc ?_ _) | (with_reducible refine Kd.C_drewN ?_ _) | (with_reducible refine Kd.C_drew ?_))); (case side2 => exact (Kd.R_reads' HO270.out).2.1); (case side3 => repeat (first | exact (Kd.R_reads' HO_3.out).2.2 | (with_reducible refine Kd.C_alloc ?_ _) | (with_reducible refine Kd.C_drewN ?_ _) | (with_reducible refine Kd.C_drew ?_))); (case side4 => exact (Kd.R_reads' HO_3.out).2.1); rintro e w39 ⟨rfl, hb⟩; refine ⟨_, rfl, ?_⟩; have n0_ := Aside0.mk (Kd.R_below (by (with_reducible repeat (first | apply Kd.R_alloc | apply Kd.R_drewN | apply Kd.R_drew)); exact HO_3.out) hb); have n1_ := Aside0.mk (Kd.R_below (by (with_reducible repeat (first | apply Kd.R_alloc | apply Kd.R_drewN | apply Kd.R_drew)); exact HO_6.out) hb); have n2_ := Aside0.mk (Kd.R_below (by (with_reducible repeat (first | apply Kd.R_alloc | apply Kd.R_drewN | apply Kd.R_drew)); exact HO270.out) hb); have n3_ := Aside0.mk (below_step (by repeat (first | (with_reducible first | exact HB.out | apply below_alloc | apply pw_below_drewN | apply below_drew1) | exact HB.out)) hb); clear HO_3; clear HO_6; clear HO270; clear HB; have HO_3 := n0_; have HO_6 := n1_; have HO270 := n2_; have HB := n3_; clear n0_ n1_ n2_ n3_; (try clear hb); (try clear hb2); (try clear hk); (try clear hi)))
                    go_meet
                    case rel => exact ⟨_, ((t268 != t254)), (by first | rfl | (simp; done) | (simp [*]; done)), H', ⟨by have := HJ4.out; first | omega | exact Nat.le_refl _⟩, ⟨by (with_reducible repeat (first | apply Kd.R_alloc | apply Kd.R_drewN | apply Kd.R_drew)); exact Kd.R_mono HO_6.out (fun _ hk => trivial)⟩, ⟨by repeat (first | (with_reducible first | exact HB.out | apply below_alloc | apply pw_below_drewN | apply below_drew1) | exact HB.out)⟩⟩
                  · rw [if_neg c36] at H
                    have c36b0 : (t267 == t253) = false := beq_eq_false_iff_ne.mpr c36
                    have c36b1 : (t267 != t253) = true := bne_iff_ne.mpr c36
                    (first | rw [c36b0] | (simp only [i64_w, i32_w]; rw [c36b0]) | skip)
                    have H' := Aside0.mk H
                    clear H
                    obtain ⟨Ao40, co40, eo40⟩ := Kd.R_slice HO270.out
                    subst eo40
                    obtain ⟨Ao41, co41, eo41⟩ := Kd.R_slice HO_3.out
                    subst eo41
                    go_wp2_with (first | ((with_reducible refine gate_callee (f := 7) rfl ?_); refine goesL_ (some 62) rfl rfl Tryz.func7 (by kernel_rfl) rfl #[.slice Ao40 t266.length co40, .slice Ao41 t252.length co41] rfl (by (try simp only [List.map_toArray, List.map_cons, List.map_nil]); first | done | rfl | (simp only [List.length_drop, List.length_take]; rfl)) ?_; (with_reducible refine (laws_eqBlockS.calls kj4 _ _ t266 _ _ t252 true _ ?side1 ?side2 ?side3 ?side4 A34.out).mono ?_); (case side1 => repeat (first | exact (Kd.R_reads' HO270.out).2.2 | (with_reducible refine Kd.C_alloc ?_ _) | (with_reducible refine Kd.C_drewN ?_ _) | (with_reducible refine Kd.C_drew ?_))); (case side2 => exact (Kd.R_reads' HO270.out).2.1); (case side3 => repeat (first | exact (Kd.R_reads' HO_3.out).2.2 | (with_reducible refine Kd.C_alloc ?_ _) | (with_reducible refine Kd.C_drewN ?_ _) | (with_reducible refine Kd.C_drew ?_))); (case side4 => exact (Kd.R_reads' HO_3.out).2.1); rintro e w42 ⟨rfl, hb⟩; refine ⟨_, rfl, ?_⟩; have n0_ := Aside0.mk (Kd.R_below (by (with_reducible repeat (first | apply Kd.R_alloc | apply Kd.R_drewN | apply Kd.R_drew)); exact HO_3.out) hb); have n1_ := Aside0.mk (Kd.R_below (by (with_reducible repeat (first | apply Kd.R_alloc | apply Kd.R_drewN | apply Kd.R_drew)); exact HO_6.out) hb); have n2_ := Aside0.mk (Kd.R_below (by (with_reducible repeat (first | apply Kd.R_alloc | apply Kd.R_drewN | apply Kd.R_drew)); exact HO270.out) hb); have n3_ := Aside0.mk (below_step (by repeat (first | (with_reducible first | exact HB.out | apply below_alloc | apply pw_below_drewN | apply below_drew1) | exact HB.out)) hb); clear HO_3; clear HO_6; clear HO270; clear HB; have HO_3 := n0_; have HO_6 := n1_; have HO270 := n2_; have HB := n3_; clear n0_ n1_ n2_ n3_; (try clear hb); (try clear hb2); (try clear hk); (try clear hi)))
                    go_meet
                    case rel => exact ⟨_, (true), (by first | rfl | (simp; done) | (simp [*]; done)), H', ⟨by have := HJ4.out; first | omega | exact Nat.le_refl _⟩, ⟨by (with_reducible repeat (first | apply Kd.R_alloc | apply Kd.R_drewN | apply Kd.R_drew)); exact Kd.R_mono HO_6.out (fun _ hk => trivial)⟩, ⟨by repeat (first | (with_reducible first | exact HB.out | apply below_alloc | apply pw_below_drewN | apply below_drew1) | exact HB.out)⟩⟩
                · replace c35 := Bool.eq_false_iff.mpr c35
                  subst c35
                  have H1 : (laws_FnExactLoadBlocks.j1 kj4 t264 t263 true) = some r := by rw [if_neg (show ¬ (false = true) by decide)] at H; exact H
                  clear H
                  have H := H1
                  clear H1
                  have H' := Aside0.mk H
                  clear H
                  obtain ⟨Ao43, co43, eo43⟩ := Kd.R_slice HO270.out
                  subst eo43
                  obtain ⟨Ao44, co44, eo44⟩ := Kd.R_slice HO_3.out
                  subst eo44
                  go_wp2_with (first | ((with_reducible refine gate_callee (f := 7) rfl ?_); refine goesL_ (some 62) rfl rfl Tryz.func7 (by kernel_rfl) rfl #[.slice Ao43 t266.length co43, .slice Ao44 t252.length co44] rfl (by (try simp only [List.map_toArray, List.map_cons, List.map_nil]); first | done | rfl | (simp only [List.length_drop, List.length_take]; rfl)) ?_; (with_reducible refine (laws_eqBlockS.calls kj4 _ _ t266 _ _ t252 false _ ?side1 ?side2 ?side3 ?side4 A34.out).mono ?_); (case side1 => repeat (first | exact (Kd.R_reads' HO270.out).2.2 | (with_reducible refine Kd.C_alloc ?_ _) | (with_reducible refine Kd.C_drewN ?_ _) | (with_reducible refine Kd.C_drew ?_))); (case side2 => exact (Kd.R_reads' HO270.out).2.1); (case side3 => repeat (first | exact (Kd.R_reads' HO_3.out).2.2 | (with_reducible refine Kd.C_alloc ?_ _) | (with_reducible refine Kd.C_drewN ?_ _) | (with_reducible refine Kd.C_drew ?_))); (case side4 => exact (Kd.R_reads' HO_3.out).2.1); rintro e w45 ⟨rfl, hb⟩; refine ⟨_, rfl, ?_⟩; have n0_ := Aside0.mk (Kd.R_below (by (with_reducible repeat (first | apply Kd.R_alloc | apply Kd.R_drewN | apply Kd.R_drew)); exact HO_3.out) hb); have n1_ := Aside0.mk (Kd.R_below (by (with_reducible repeat (first | apply Kd.R_alloc | apply Kd.R_drewN | apply Kd.R_drew)); exact HO_6.out) hb); have n2_ := Aside0.mk (Kd.R_below (by (with_reducible repeat (first | apply Kd.R_alloc | apply Kd.R_drewN | apply Kd.R_drew)); exact HO270.out) hb); have n3_ := Aside0.mk (below_step (by repeat (first | (with_reducible first | exact HB.out | apply below_alloc | apply pw_below_drewN | apply below_drew1) | exact HB.out)) hb); clear HO_3; clear HO_6; clear HO270; clear HB; have HO_3 := n0_; have HO_6 := n1_; have HO270 := n2_; have HB := n3_; clear n0_ n1_ n2_ n3_; (try clear hb); (try clear hb2); (try clear hk); (try clear hi)))
                  go_meet
                  case rel => exact ⟨_, (true), (by first | rfl | (simp; done) | (simp [*]; done)), H', ⟨by have := HJ4.out; first | omega | exact Nat.le_refl _⟩, ⟨by (with_reducible repeat (first | apply Kd.R_alloc | apply Kd.R_drewN | apply Kd.R_drew)); exact Kd.R_mono HO_6.out (fun _ hk => trivial)⟩, ⟨by repeat (first | (with_reducible first | exact HB.out | apply below_alloc | apply pw_below_drewN | apply below_drew1) | exact HB.out)⟩⟩
              case rest =>
                clear HC29
                try clear c1
                try clear c2
                try clear c2b0
                try clear c2b1
                try clear p2
                try clear c3
                try clear c5
                try clear c6
                try clear c7
                try clear c8
                try clear c9
                try clear c10
                try clear c10b0
                try clear c10b1
                try clear c20
                try clear c23
                try clear c23b0
                try clear c27
                try clear c27b0
                try clear c27b1
                try clear c35
                try clear c36
                try clear c36b0
                try clear c36b1
                try clear p2
                obtain ⟨kq, x73_28, rfl, HA, HJ28, HO_6, HB⟩ := hcut
                have hl6_28 := (Kd.R_reads' HO_6.out).1
                rw [hl6_28] at HO_6
                (try simp only [hl6_28])
                cases kq with
                | zero => exact absurd HA.out (by simp [laws_FnExactLoadBlocks.j1])
                | succ kj28 =>
                  have H := HA.out
                  clear HA
                  simp only [laws_FnExactLoadBlocks.j1] at H
                  by_cases c46 : x73_28 = true
                  · subst c46
                    have H1 : (some false) = some r := by rw [if_pos rfl] at H; exact H
                    clear H
                    have H := H1
                    clear H1
                    obtain rfl := Option.some.inj H
                    go_wp2
                    go_ret
                    exact ⟨by first | rfl | (simp [errW_none, errW_some] <;> rfl) | (simp [*, errW_none, errW_some] <;> rfl), by repeat (first | (with_reducible first | exact HB.out | apply below_alloc | apply pw_below_drewN | apply below_drew1) | exact HB.out)⟩
                  · replace c46 := Bool.eq_false_iff.mpr c46
                    subst c46
                    have H1 : ((laws_heldBlockS.f kj28 t264 1).bind fun t272 => (if t272 < 0 then (some false) else (if t272 = t263 then (some true) else (some false)))) = some r := by rw [if_neg (show ¬ (false = true) by decide)] at H; exact H
                    clear H
                    have H := H1
                    clear H1
                    replace H := Option.bind_eq_some_iff.mp H
                    obtain ⟨t272, A470, H⟩ := H
                    replace H : (if t272 < 0 then (some false) else (if t272 = t263 then (some true) else (some false))) = some r := H
                    have A47 := Aside0.mk A470
                    clear A470
                    by_cases c48 : t272 < 0
                    · rw [if_pos c48] at H
                      have c48b0 : decide (t272 < 0) = true := decide_eq_true c48
                      clear c48
                      obtain rfl := Option.some.inj H
                      go_wp2_with (first | ((with_reducible refine gate_callee (f := 9) rfl ?_); refine goesL_ (some 76) rfl rfl Tryz.func9 (by kernel_rfl) rfl #[.slice Ao30 t264.length co30, .int .i64 1] rfl (by (try simp only [List.map_toArray, List.map_cons, List.map_nil]); first | done | rfl | (simp only [List.length_drop, List.length_take]; rfl)) ?_; (with_reducible refine (laws_heldBlockS.calls kj28 _ _ t264 1 t272 _ ?side1 ?side2 A47.out).mono ?_); (case side1 => repeat (first | exact (Kd.R_reads' HO_6.out).2.2 | (with_reducible refine Kd.C_alloc ?_ _) | (with_reducible refine Kd.C_drewN ?_ _) | (with_reducible refine Kd.C_drew ?_))); (case side2 => exact (Kd.R_reads' HO_6.out).2.1); rintro e w49 ⟨rfl, hb⟩; refine ⟨_, rfl, ?_⟩; have n0_ := Aside0.mk (Kd.R_below (by (with_reducible repeat (first | apply Kd.R_alloc | apply Kd.R_drewN | apply Kd.R_drew)); exact HO_6.out) hb); have n1_ := Aside0.mk (below_step (by repeat (first | (with_reducible first | exact HB.out | apply below_alloc | apply pw_below_drewN | apply below_drew1) | exact HB.out)) hb); clear HO_6; clear HB; have HO_6 := n0_; have HB := n1_; clear n0_ n1_; (try clear hb); (try clear hb2); (try clear hk); (try clear hi)))
                      go_ret
                      exact ⟨by first | rfl | (simp [errW_none, errW_some] <;> rfl) | (simp [*, errW_none, errW_some] <;> rfl), by repeat (first | (with_reducible first | exact HB.out | apply below_alloc | apply pw_below_drewN | apply below_drew1) | exact HB.out)⟩
                    · rw [if_neg c48] at H
                      have c48b0 : decide (t272 < 0) = false := decide_eq_false c48
                      clear c48
                      by_cases c50 : t272 = t263
                      · rw [if_pos c50] at H
                        have c50b0 : (t272 == t263) = true := beq_iff_eq.mpr c50
                        have c50b1 : (t272 != t263) = false := bne_eq_false_iff_eq.mpr c50
                        clear c50
                        obtain rfl := Option.some.inj H
                        go_wp2_with (first | ((with_reducible refine gate_callee (f := 9) rfl ?_); refine goesL_ (some 76) rfl rfl Tryz.func9 (by kernel_rfl) rfl #[.slice Ao30 t264.length co30, .int .i64 1] rfl (by (try simp only [List.map_toArray, List.map_cons, List.map_nil]); first | done | rfl | (simp only [List.length_drop, List.length_take]; rfl)) ?_; (with_reducible refine (laws_heldBlockS.calls kj28 _ _ t264 1 t272 _ ?side1 ?side2 A47.out).mono ?_); (case side1 => repeat (first | exact (Kd.R_reads' HO_6.out).2.2 | (with_reducible refine Kd.C_alloc ?_ _) | (with_reducible refine Kd.C_drewN ?_ _) | (with_reducible refine Kd.C_drew ?_))); (case side2 => exact (Kd.R_reads' HO_6.out).2.1); rintro e w51 ⟨rfl, hb⟩; refine ⟨_, rfl, ?_⟩; have n0_ := Aside0.mk (Kd.R_below (by (with_reducible repeat (first | apply Kd.R_alloc | apply Kd.R_drewN | apply Kd.R_drew)); exact HO_6.out) hb); have n1_ := Aside0.mk (below_step (by repeat (first | (with_reducible first | exact HB.out | apply below_alloc | apply pw_below_drewN | apply below_drew1) | exact HB.out)) hb); clear HO_6; clear HB; have HO_6 := n0_; have HB := n1_; clear n0_ n1_; (try clear hb); (try clear hb2); (try clear hk); (try clear hi)))
                        go_ret
                        exact ⟨by first | rfl | (simp [errW_none, errW_some] <;> rfl) | (simp [*, errW_none, errW_some] <;> rfl), by repeat (first | (with_reducible first | exact HB.out | apply below_alloc | apply pw_below_drewN | apply below_drew1) | exact HB.out)⟩
                      · rw [if_neg c50] at H
                        have c50b0 : (t272 == t263) = false := beq_eq_false_iff_ne.mpr c50
                        have c50b1 : (t272 != t263) = true := bne_iff_ne.mpr c50
                        obtain rfl := Option.some.inj H
                        go_wp2_with (first | ((with_reducible refine gate_callee (f := 9) rfl ?_); refine goesL_ (some 76) rfl rfl Tryz.func9 (by kernel_rfl) rfl #[.slice Ao30 t264.length co30, .int .i64 1] rfl (by (try simp only [List.map_toArray, List.map_cons, List.map_nil]); first | done | rfl | (simp only [List.length_drop, List.length_take]; rfl)) ?_; (with_reducible refine (laws_heldBlockS.calls kj28 _ _ t264 1 t272 _ ?side1 ?side2 A47.out).mono ?_); (case side1 => repeat (first | exact (Kd.R_reads' HO_6.out).2.2 | (with_reducible refine Kd.C_alloc ?_ _) | (with_reducible refine Kd.C_drewN ?_ _) | (with_reducible refine Kd.C_drew ?_))); (case side2 => exact (Kd.R_reads' HO_6.out).2.1); rintro e w52 ⟨rfl, hb⟩; refine ⟨_, rfl, ?_⟩; have n0_ := Aside0.mk (Kd.R_below (by (with_reducible repeat (first | apply Kd.R_alloc | apply Kd.R_drewN | apply Kd.R_drew)); exact HO_6.out) hb); have n1_ := Aside0.mk (below_step (by repeat (first | (with_reducible first | exact HB.out | apply below_alloc | apply pw_below_drewN | apply below_drew1) | exact HB.out)) hb); clear HO_6; clear HB; have HO_6 := n0_; have HB := n1_; clear n0_ n1_; (try clear hb); (try clear hb2); (try clear hk); (try clear hi)))
                        go_ret
                        exact ⟨by first | rfl | (simp [errW_none, errW_some] <;> rfl) | (simp [*, errW_none, errW_some] <;> rfl), by repeat (first | (with_reducible first | exact HB.out | apply below_alloc | apply pw_below_drewN | apply below_drew1) | exact HB.out)⟩
            · rw [if_neg c27] at H
              have c27b0 : (t265 == t263) = false := beq_eq_false_iff_ne.mpr c27
              have c27b1 : (t265 != t263) = true := bne_iff_ne.mpr c27
              obtain rfl := Option.some.inj H
              obtain ⟨Ao53, co53, eo53⟩ := Kd.R_slice HO_6.out
              subst eo53
              go_wp2_with (first | ((with_reducible refine gate_callee (f := 8) rfl ?_); refine goesL_ (some 45) rfl rfl Tryz.func8 (by kernel_rfl) rfl #[.slice Ao53 t257.length co53, .int .i64 1] rfl (by (try simp only [List.map_toArray, List.map_cons, List.map_nil]); first | done | rfl | (simp only [List.length_drop, List.length_take]; rfl)) ?_; (with_reducible refine (laws_markBlockS.calls kj4 (fun k_ => some k_ = (.slice Ao53 t257.length co53 : Value).ownBlock) (.slice Ao53 t257.length co53) t257 1 t263 t264 w _ ?side1 ?side2 A21.out).mono ?_); (case side1 => repeat (first | (with_reducible first | exact HB.out | apply below_alloc | apply pw_below_drewN | apply below_drew1) | exact HB.out)); (case side2 => exact Kd.R_tight rfl HO_6.out); rintro e w54 ⟨rfl, hy0, hb, hkp⟩; refine ⟨_, rfl, ?_⟩; have n0_ := Aside0.mk (Kd.R_mono (ok' := fun k_ => some k_ ≠ (.slice Ao53 t257.length co53 : Value).ownBlock) (Kd.R_keptB (HO_3.out) hkp (fun k_ hk_ hs_ => (hk_) hs_)) (fun k_ hk_ => hk_.1)); have n1_ := Aside0.mk (Kd.R_reok rfl hy0 (fun k_ e_ => HO_6.out.1 k_ e_)); have n2_ := Aside0.mk (hb); clear HO_3; clear HO_6; clear HB; have HO_3 := n0_; have HO_6 := n1_; have HB := n2_; clear n0_ n1_ n2_; (try clear hb); (try clear hkp); (try clear hy0)) | ((with_reducible refine gate_callee (f := 9) rfl ?_); refine goesL_ (some 48) rfl rfl Tryz.func9 (by kernel_rfl) rfl #[.slice Ao53 t264.length co53, .int .i64 1] rfl (by (try simp only [List.map_toArray, List.map_cons, List.map_nil]); first | done | (rw [show t264.length = t257.length from (Kd.R_reads' HO_6.out).1.symm] <;> rfl) | rfl | (simp only [List.length_drop, List.length_take]; rfl)) ?_; (with_reducible refine (laws_heldBlockS.calls kj4 _ _ t264 1 t265 _ ?side1 ?side2 A22.out).mono ?_); (case side1 => repeat (first | exact (Kd.R_reads' HO_6.out).2.2 | (with_reducible refine Kd.C_alloc ?_ _) | (with_reducible refine Kd.C_drewN ?_ _) | (with_reducible refine Kd.C_drew ?_))); (case side2 => rw [show t264.length = t257.length from (Kd.R_reads' HO_6.out).1.symm]; exact (Kd.R_reads' HO_6.out).2.1); rintro e w55 ⟨rfl, hb⟩; refine ⟨_, rfl, ?_⟩; have n0_ := Aside0.mk (Kd.R_below (by (with_reducible repeat (first | apply Kd.R_alloc | apply Kd.R_drewN | apply Kd.R_drew)); exact HO_3.out) hb); have n1_ := Aside0.mk (Kd.R_below (by (with_reducible repeat (first | apply Kd.R_alloc | apply Kd.R_drewN | apply Kd.R_drew)); exact HO_6.out) hb); have n2_ := Aside0.mk (below_step (by repeat (first | (with_reducible first | exact HB.out | apply below_alloc | apply pw_below_drewN | apply below_drew1) | exact HB.out)) hb); clear HO_3; clear HO_6; clear HB; have HO_3 := n0_; have HO_6 := n1_; have HB := n2_; clear n0_ n1_ n2_; (try clear hb); (try clear hb2); (try clear hk); (try clear hi)))
              go_ret
              exact ⟨by first | rfl | (simp [errW_none, errW_some] <;> rfl) | (simp [*, errW_none, errW_some] <;> rfl), by repeat (first | (with_reducible first | exact HB.out | apply below_alloc | apply pw_below_drewN | apply below_drew1) | exact HB.out)⟩
end Go.Proofs.YtkllogmpaaeokaaGreatDoor.XT
end

section
namespace Go.Proofs.YtkllogmpaaeokaaGreatDoor.Open
open Go.ChangeShapes Go.WideShapes Go.RowKit Go.Proofs.YtkllogmpaaeokaaGreatDoorW.PrintWords
set_option linter.unusedVariables false
def Opens (P : Program) (t : TypeId) {α : Type} (d : Kd α) (Q : α → Prop) : Prop :=
  P.cellsOf t = d.sz ∧ ∀ (H : Type) (enc : TypeId × Value → H) (w : World) (base : Nat) (spare : Nat → Bool) (held : Bool) (fuel : Nat) (cs : List Value) (x : DataW H × List MemPlace),
    DataW.trod enc P w base spare held fuel t cs = some x → ∃ a : α, d.K w a cs ∧ Q a
theorem Opens.int {P : Program} {t : TypeId} {k : IntKind} (hu : P.underlying t = some (.int k)) (hc : P.cellsOf t = 1) : Opens P t (Kd.int k) (fun n => (Lit.int k n).wf = true) := by
  refine ⟨hc, fun H enc w base spare held fuel cs x h => ?_⟩
  obtain ⟨n, rfl, _, hw⟩ := DataW.trod_int hu h
  exact ⟨n, rfl, hw⟩
theorem Opens.bool {P : Program} {t : TypeId} (hu : P.underlying t = some .bool) (hc : P.cellsOf t = 1) : Opens P t Kd.bool (fun _ => True) := by
  refine ⟨hc, fun H enc w base spare held fuel cs x h => ?_⟩
  obtain ⟨b, rfl, _⟩ := DataW.trod_bool hu h
  exact ⟨b, rfl, trivial⟩
theorem Opens.string {P : Program} {t : TypeId} (hu : P.underlying t = some .string) (hc : P.cellsOf t = 1) : Opens P t Kd.string (fun s => s.size ≤ maxLen) := by
  refine ⟨hc, fun H enc w base spare held fuel cs x h => ?_⟩
  obtain ⟨s, rfl, _, hs⟩ := DataW.trod_string hu h
  exact ⟨s, rfl, hs⟩
theorem choose_list {α : Type} {n : Nat} {p : Nat → α → Prop} (h : ∀ i, i < n → ∃ x, p i x) : ∃ l : List α, l.length = n ∧ ∀ i x, l[i]? = some x → p i x := by
  induction n with
  | zero => exact ⟨[], rfl, fun i x hx => by simp at hx⟩
  | succ n ih =>
    obtain ⟨l, hl, hp⟩ := ih (fun i hi => h i (by omega))
    obtain ⟨x, hx⟩ := h n (by omega)
    refine ⟨l ++ [x], by simp [hl], fun i y hy => ?_⟩
    rcases Nat.lt_or_ge i l.length with hi | hi
    · rw [List.getElem?_append_left hi] at hy
      exact hp i y hy
    · have : i = l.length := by
        have := (List.getElem?_eq_some_iff.1 hy).1
        simp at this
        omega
      subst this
      simp at hy
      subst hy
      rw [hl]
      exact hx
theorem cells?_get {w : World} {base : Nat} {a : Addr} {n : Nat} {cs : List Value} (h : w.cells? base a n = some cs) (i : Nat) (u : Value) (hu : cs[i]? = some u) : w.cell? (a.add i) = some u := by
  unfold World.cells? at h
  split at h
  · have hlen : cs.length = n := by simpa using mapM_some_length h
    have hi : i < n := by
      have := (List.getElem?_eq_some_iff.1 hu).1
      omega
    have := mapM_some_get h i i (by simp [hi])
    rw [hu] at this
    exact this
  · cases h
theorem Opens.slice {P : Program} {t e : TypeId} {α : Type} {d : Kd α} {Q : α → Prop} (hu : P.underlying t = some (.slice e)) (hc : P.cellsOf t = 1) (hd : Opens P e d Q) :
    Opens P t (Kd.slice e d) (fun xs => xs.length ≤ maxLen ∧ ∀ x ∈ xs, Q x) := by
  refine ⟨hc, fun H enc w base spare held fuel cs x h => ?_⟩
  rcases Go.Deep.open_slice hu h with ⟨rfl, _⟩ | ⟨a, len, cap, m, n, D, Pl, rfl, _, hl, hm, hmm, _, hx⟩
  · exact ⟨[], ⟨none, 0, rfl, Nat.le_refl _, rfl, by simp, fun h => absurd h (by simp)⟩, by simp, fun x hx => by simp at hx⟩
  · have hlm : len ≤ m := by rw [hmm]; split <;> omega
    obtain ⟨l, hl1, hp⟩ := choose_list (n := len) (p := fun i (x : α) => ∃ cs', w.cells? base (a.add (i * d.sz)) d.sz = some cs' ∧ d.K w x cs' ∧ Q x) (fun i hi => by
      obtain ⟨cs', h1, h2⟩ := hx i (by omega)
      rw [hd.1] at h1
      obtain ⟨y, hy, hq⟩ := hd.2 H enc w base spare held n cs' _ h2
      exact ⟨y, cs', h1, hy, hq⟩)
    have hmax : (maxLen : Nat) = 9223372036854775807 := by unfold maxLen; omega
    refine ⟨l, ⟨some a, cap, by rw [hl1], by omega, rfl, by omega, fun _ => ⟨a, rfl, fun j p hj => ?_⟩⟩, by omega, fun x hx => ?_⟩
    · obtain ⟨cs', h1, h2, _⟩ := hp j p hj
      refine ⟨cs', d.K_len h2, h2, fun i u hi => ?_⟩
      have := cells?_get h1 i u hi
      rwa [Go.Deep.add_add] at this
    · obtain ⟨i, hi, rfl⟩ := List.mem_iff_getElem.1 hx
      obtain ⟨cs', _, _, h3⟩ := hp i _ (List.getElem?_eq_getElem hi)
      exact h3
def OpensF (P : Program) (fs : List Field) (off : Nat) {α : Type} (d : Kd α) (Q : α → Prop) : Prop :=
  ∀ (H : Type) (enc : TypeId × Value → H) (w : World) (base : Nat) (spare : Nat → Bool) (held : Bool) (n : Nat) (cs : List Value), off + d.sz = cs.length →
    (∀ f ∈ fs, ∃ y, DataW.trod enc P w base spare held n f.type ((cs.drop f.offset).take (P.cellsOf f.type)) = some y) → ∃ a : α, d.K w a (cs.drop off) ∧ Q a
theorem OpensF.one {P : Program} {f : Field} {off : Nat} {α : Type} {d : Kd α} {Q : α → Prop} (ho : f.offset = off) (h : Opens P f.type d Q) : OpensF P [f] off d Q := by
  intro H enc w base spare held n cs hl hf
  obtain ⟨y, hy⟩ := hf f List.mem_cons_self
  rw [ho, h.1, List.take_of_length_le (by rw [List.length_drop]; omega)] at hy
  exact h.2 H enc w base spare held n _ y hy
theorem OpensF.cons {P : Program} {f : Field} {fs : List Field} {off : Nat} {α β : Type} {d1 : Kd α} {d2 : Kd β} {Q1 : α → Prop} {Q2 : β → Prop} (ho : f.offset = off) (h : Opens P f.type d1 Q1) (hs : OpensF P fs (off + d1.sz) d2 Q2) :
    OpensF P (f :: fs) off (Kd.pair d1 d2) (fun x => Q1 x.1 ∧ Q2 x.2) := by
  intro H enc w base spare held n cs hl hf
  have hl' : off + (d1.sz + d2.sz) = cs.length := hl
  obtain ⟨y, hy⟩ := hf f List.mem_cons_self
  rw [ho, h.1] at hy
  obtain ⟨a, ha, qa⟩ := h.2 H enc w base spare held n _ y hy
  obtain ⟨b, hb, qb⟩ := hs H enc w base spare held n cs (by omega) (fun g hg => hf g (List.mem_cons_of_mem _ hg))
  refine ⟨(a, b), ⟨_, _, ?_, ha, hb⟩, qa, qb⟩
  rw [← List.drop_drop, List.take_append_drop]
theorem Opens.struct {P : Program} {t : TypeId} {fs : Array Field} {α β : Type} {d : Kd α} {Q : α → Prop} (f : β → α) (g : α → β) (hfg : ∀ x, f (g x) = x) (hu : P.underlying t = some (.struct fs)) (hc : P.cellsOf t = d.sz) (h : OpensF P fs.toList 0 d Q) :
    Opens P t (Kd.iso d f) (fun x => Q (f x)) := by
  refine ⟨hc, fun H enc w base spare held fuel cs x hx => ?_⟩
  obtain ⟨xs, n, rfl, _, hl, hxs, hf⟩ := DataW.trod_struct hu hx
  obtain ⟨a, ha, qa⟩ := h H enc w base spare held n cs (by omega) (fun f hf0 => by
    obtain ⟨i, hi, rfl⟩ := List.mem_iff_getElem.1 hf0
    have hi' : i < fs.size := by simpa using hi
    have := hf i fs[i] (Array.getElem?_eq_getElem hi')
    rw [List.getElem?_eq_getElem (by omega)] at this
    exact ⟨_, by simpa using this⟩)
  refine ⟨g a, ?_, ?_⟩
  · show d.K w (f (g a)) cs
    rw [hfg]
    simpa using ha
  · show Q (f (g a))
    rw [hfg]
    exact qa
end Go.Proofs.YtkllogmpaaeokaaGreatDoor.Open
end

section
namespace Go.Proofs.YtkllogmpaaeokaaGreatDoor.XT
open Go.RowKit Go.Proofs.YtkllogmpaaeokaaGreatDoorW.PrintWords
def laws_FnExactLoadBlocks.Pure : Prop := ∀ (a0 : ByteArray), (a0.size ≤ 140737488351232) → ∃ k, laws_FnExactLoadBlocks.f k a0 = some true
end Go.Proofs.YtkllogmpaaeokaaGreatDoor.XT
end

section
namespace Go.Proofs.YtkllogmpaaeokaaGreatDoor.EvK
open Go.RowKit Go.Proofs.YtkllogmpaaeokaaGreatDoorW.PrintWords
set_option linter.unusedVariables false
theorem w64 {n : Int} (h : -9223372036854775808 ≤ n) (h' : n ≤ 9223372036854775807) : wrap64 n = n := by unfold wrap64; omega
theorem Ev.some {α : Type} {a r : α} (h : a = r) : Ev (fun _ => Option.some a) r := h ▸ Ev.now a
theorem Ev.bind_some {α β : Type} {g : Nat → Option α} {f : Nat → α → Option β} {a : α} {r : β} (h : Ev g a) (k : Ev (fun n => f n a) r) : Ev (fun n => (g n).bind (f n)) r := Ev.bind h k
theorem getD_at {α : Type} (l : List α) (d : α) (i : Nat) (h : i < l.length) : l.getD (i : Int).toNat d = l[i] := by
  simp [List.getD_eq_getElem?_getD, List.getElem?_eq_getElem h]
theorem rd_at (l : List Int) (i : Nat) (h : i < l.length) : rd l (i : Int) = l[i] := getD_at l 0 i h
theorem rdOf_at {α : Type} (l : List α) (d : α) (i : Nat) (h : i < l.length) : rdOf d l (i : Int) = l[i] := getD_at l d i h
def EvP {α : Type} (g : Nat → Option α) (P : α → Prop) : Prop := ∃ r, Ev g r ∧ P r
theorem EvP.now {α : Type} {r : α} {P : α → Prop} (h : P r) : EvP (fun _ => Option.some r) P := ⟨r, Ev.now r, h⟩
theorem EvP.of {α : Type} {g : Nat → Option α} {r : α} {P : α → Prop} (h : Ev g r) (hp : P r) : EvP g P := ⟨r, h, hp⟩
theorem EvP.mono {α : Type} {g : Nat → Option α} {P Q : α → Prop} (h : EvP g P) (hp : ∀ r, P r → Q r) : EvP g Q := by
  obtain ⟨r, h1, h2⟩ := h
  exact ⟨r, h1, hp _ h2⟩
theorem EvP.eq {α : Type} {g : Nat → Option α} {r : α} (h : EvP g (· = r)) : Ev g r := by
  obtain ⟨r', h, rfl⟩ := h
  exact h
theorem EvP.step {α : Type} {g f : Nat → Option α} {P : α → Prop} (h : ∀ k, g (k + 1) = f k) (k : EvP f P) : EvP g P := by
  obtain ⟨r, h1, h2⟩ := k
  exact ⟨r, Ev.step h h1, h2⟩
theorem EvP.bind {α β : Type} {g : Nat → Option α} {f : Nat → α → Option β} {a : α} {P : β → Prop} (h : Ev g a) (k : EvP (fun n => f n a) P) : EvP (fun n => (g n).bind (f n)) P := by
  obtain ⟨r, h1, h2⟩ := k
  exact ⟨r, Ev.bind h h1, h2⟩
theorem EvP.rounds {α : Type} {g : Nat → Option α} {r : α} (h : EvP g (· = r)) : ∃ k, g k = Option.some r := Ev.rounds (EvP.eq h)
theorem for_evp {σ ρ : Type} {L : Nat → σ → Int → Option ρ} {Post : ρ → Prop} (n : Nat) (inv : Nat → σ → Prop)
    (step : ∀ (i : Nat) (s : σ), i < n → inv i s → (∀ s', inv (i + 1) s' → EvP (fun k => L k s' ((i : Int) + 1)) Post) → EvP (fun k => L k s i) Post)
    (fin : ∀ s, inv n s → EvP (fun k => L k s n) Post) (s : σ) (h0 : inv 0 s) : EvP (fun k => L k s 0) Post := by
  have key : ∀ (d i : Nat) (s : σ), i + d = n → inv i s → EvP (fun k => L k s i) Post := by
    intro d
    induction d with
    | zero =>
      intro i s hi hs
      obtain rfl : i = n := by omega
      exact fin s hs
    | succ d ih =>
      intro i s hi hs
      refine step i s (by omega) hs (fun s' hs' => ?_)
      simpa using ih (i + 1) s' (by omega) hs'
  simpa using key n 0 s (by omega) h0
theorem take_all {α : Type} {p : α → Prop} {l : List α} {i : Nat} (h : i < l.length) (hs : ∀ x ∈ l.take i, p x) (hx : p l[i]) : ∀ x ∈ l.take (i + 1), p x := by
  rw [List.take_succ_eq_append_getElem h]
  intro x hm
  rcases List.mem_append.1 hm with hm | hm
  · exact hs x hm
  · rw [List.mem_singleton.1 hm]
    exact hx
theorem set_done {α : Type} (E : Nat → α) (l : List α) (i : Nat) (h : i < l.length) : ((List.range i).map E ++ l.drop i).set i (E i) = (List.range (i + 1)).map E ++ l.drop (i + 1) := by
  rw [List.set_append_right _ _ (by simp), List.range_succ, List.map_append, List.append_assoc]
  congr 1
  rw [List.length_map, List.length_range, Nat.sub_self, List.drop_eq_getElem_cons h]
  rfl
theorem getD_set_self {α : Type} (l : List α) (i : Nat) (v d : α) (h : i < l.length) : (l.set i v).getD i d = v := by
  simp [List.getD_eq_getElem?_getD, h]
theorem all_ev {α : Type} {L : Nat → Int → Option Bool} (l : List α) (p : α → Bool) (b : Bool)
    (step : ∀ (i : Nat) (h : i < l.length), p l[i] = true → ∀ P, EvP (fun k => L k ((i : Int) + 1)) P → EvP (fun k => L k i) P)
    (stop : ∀ (i : Nat) (h : i < l.length), p l[i] = false → Ev (fun k => L k i) false)
    (fin : Ev (fun k => L k l.length) b) : Ev (fun k => L k 0) (l.all p && b) := by
  apply EvP.eq
  refine for_evp (L := fun k (_ : Unit) i => L k i) l.length (fun i _ => ∀ x ∈ l.take i, p x = true) ?_ ?_ () (by simp)
  · intro i _ hi hs K
    cases hp : p l[i] with
    | true => exact step i hi hp _ (K () (take_all hi hs hp))
    | false =>
      have e : l.all p = false := by
        rw [List.all_eq_false]
        exact ⟨l[i], List.getElem_mem hi, by simp [hp]⟩
      rw [e]
      exact EvP.of (stop i hi hp) rfl
  · intro _ hs
    have e : l.all p = true := by
      rw [List.all_eq_true]
      simpa using hs
    rw [e]
    exact EvP.of fin rfl
theorem bytes_at_ (s : ByteArray) (i : Nat) (h : i < s.data.toList.length) : bt s (i : Int) = ((s.data.toList[i]).toNat : Int) := by
  have h' : i < s.size := by simpa using h
  unfold bt
  rw [dif_pos (by simpa using h')]
  simp
  rfl
theorem size_len (s : ByteArray) : (s.size : Int) = (s.data.toList.length : Int) := by simp
theorem size_len' (s : ByteArray) : s.size = s.data.toList.length := by simp
end Go.Proofs.YtkllogmpaaeokaaGreatDoor.EvK
end

section
namespace Go.Proofs.YtkllogmpaaeokaaGreatDoor.PBasics
open Go.RowKit Go.Proofs.YtkllogmpaaeokaaGreatDoorW.PrintWords Go.Proofs.YtkllogmpaaeokaaGreatDoor.XT Go.Proofs.YtkllogmpaaeokaaGreatDoor.EvK
set_option linter.unusedVariables false
set_option linter.unusedSimpArgs false
def smallB (c : UInt8) : Bool := decide (97 ≤ (c.toNat : Int)) && decide ((c.toNat : Int) ≤ 122)
def digB (c : UInt8) : Bool := decide (48 ≤ (c.toNat : Int)) && decide ((c.toNat : Int) ≤ 57)
def nameB (c : UInt8) : Bool := smallB c || digB c
def nameOk (s : ByteArray) : Bool := match s.data.toList with
  | [] => false
  | c :: l => decide ((s.size : Int) ≤ 10) && smallB c && (c :: l).all nameB
def inR (n a b : Int) : Bool := decide (a ≤ n) && decide (n ≤ b)
theorem within_eq (n a b : Int) : impl_within.f n a b = some (inR n a b) := by
  unfold impl_within.f inR
  by_cases h : n ≥ a
  · rw [if_pos h, decide_eq_true (show a ≤ n from h), Bool.true_and]
  · rw [if_neg h, decide_eq_false (show ¬ a ≤ n from h), Bool.false_and]
theorem in_eq (n a b : Int) : spec_l00In.f n a b = some (inR n a b) := by
  unfold spec_l00In.f inR
  by_cases h : n ≥ a
  · rw [if_pos h, decide_eq_true (show a ≤ n from h), Bool.true_and]
  · rw [if_neg h, decide_eq_false (show ¬ a ≤ n from h), Bool.false_and]
theorem small_eq (c : UInt8) : spec_l01Small.f (c.toNat : Int) = some (smallB c) := by
  unfold spec_l01Small.f smallB
  by_cases h : (c.toNat : Int) ≥ 97
  · rw [if_pos h, decide_eq_true (show (97 : Int) ≤ c.toNat from h), Bool.true_and]
  · rw [if_neg h, decide_eq_false (show ¬ (97 : Int) ≤ c.toNat from h), Bool.false_and]
theorem dig_eq (c : UInt8) : spec_l01Digit.f (c.toNat : Int) = some (digB c) := by
  unfold spec_l01Digit.f digB
  by_cases h : (c.toNat : Int) ≥ 48
  · rw [if_pos h, decide_eq_true (show (48 : Int) ≤ c.toNat from h), Bool.true_and]
  · rw [if_neg h, decide_eq_false (show ¬ (48 : Int) ≤ c.toNat from h), Bool.false_and]
theorem onlyName_ev (s : ByteArray) (h : s.size ≤ 1048576) : Ev (fun k => impl_onlyNameBytes.f k s) (s.data.toList.all nameB) := by
  unfold impl_onlyNameBytes.f
  rw [size_len'] at h
  have := all_ev (L := fun k i => impl_onlyNameBytes.l0 k s (s.size : Int) i) s.data.toList nameB true ?_ ?_ ?_
  · simpa using this
  · intro i hi hp P K
    refine EvP.step (fun k => impl_onlyNameBytes.l0.eq_2 _ _ _ k) ?_
    simp only [size_len] at K
    simp only [size_len, if_pos (show (i : Int) < (s.data.toList.length : Int) by omega), if_pos (show (0 : Int) ≤ (i : Int) by omega), bytes_at_ s i hi, w64 (show -9223372036854775808 ≤ (i : Int) + 1 by omega) (by omega)]
    simp only [nameB, smallB, digB, Bool.or_eq_true, Bool.and_eq_true, decide_eq_true_eq] at hp
    by_cases h1 : ((s.data.toList[i]).toNat : Int) < 97
    · simp only [if_pos h1, if_neg (show ¬ ((s.data.toList[i]).toNat : Int) < 48 by omega), if_neg (show ¬ ((s.data.toList[i]).toNat : Int) > 57 by omega)]
      exact K
    · simp only [if_neg h1, if_neg (show ¬ ((s.data.toList[i]).toNat : Int) > 122 by omega)]
      exact K
  · intro i hi hp
    refine Ev.step (fun k => impl_onlyNameBytes.l0.eq_2 _ _ _ k) ?_
    simp only [size_len, if_pos (show (i : Int) < (s.data.toList.length : Int) by omega), if_pos (show (0 : Int) ≤ (i : Int) by omega), bytes_at_ s i hi, w64 (show -9223372036854775808 ≤ (i : Int) + 1 by omega) (by omega)]
    simp only [nameB, smallB, digB, Bool.or_eq_false_iff, Bool.and_eq_false_iff, decide_eq_false_iff_not] at hp
    by_cases h1 : ((s.data.toList[i]).toNat : Int) < 97
    · by_cases h2 : ((s.data.toList[i]).toNat : Int) < 48
      · simp only [if_pos h1, if_pos h2]; exact Ev.now _
      · simp only [if_pos h1, if_neg h2, if_pos (show ((s.data.toList[i]).toNat : Int) > 57 by omega)]; exact Ev.now _
    · simp only [if_neg h1, if_pos (show ((s.data.toList[i]).toNat : Int) > 122 by omega), if_neg (show ¬ ((s.data.toList[i]).toNat : Int) < 48 by omega), if_pos (show ((s.data.toList[i]).toNat : Int) > 57 by omega)]
      exact Ev.now _
  · refine Ev.step (fun k => impl_onlyNameBytes.l0.eq_2 _ _ _ k) ?_
    simp only [size_len, if_neg (show ¬ (s.data.toList.length : Int) < (s.data.toList.length : Int) by omega)]
    exact Ev.now _
theorem head_at (s : ByteArray) (c : UInt8) (l : List UInt8) (hl : s.data.toList = c :: l) : bt s 0 = (c.toNat : Int) := by
  have h : 0 < s.data.toList.length := by rw [hl]; simp
  have := bytes_at_ s 0 h
  rw [show ((0 : Nat) : Int) = 0 from rfl] at this
  rw [this]
  simp only [hl, List.getElem_cons_zero]
theorem isName_ev (s : ByteArray) (h : s.size ≤ 1048576) : Ev (fun k => impl_IsName.f k s) (nameOk s) := by
  unfold impl_IsName.f nameOk
  cases hl : s.data.toList with
  | nil =>
    have hz : s.size = 0 := by rw [size_len', hl]; rfl
    simp only [hz, Int.natCast_zero, if_pos (show (0 : Int) < 1 by omega)]
    exact Ev.now _
  | cons c l =>
    have hz : s.size = l.length + 1 := by rw [size_len', hl]; rfl
    have ho := onlyName_ev s h
    rw [hl] at ho
    simp only [if_neg (show ¬ (s.size : Int) < 1 by omega), if_pos (show (0 : Int) < (s.size : Int) by omega), head_at s c l hl]
    by_cases h1 : (s.size : Int) > 10
    · simp only [if_pos h1, decide_eq_false (show ¬ (s.size : Int) ≤ 10 by omega), Bool.false_and]
      exact Ev.now _
    · simp only [if_neg h1, decide_eq_true (show (s.size : Int) ≤ 10 by omega), Bool.true_and]
      by_cases h2 : (c.toNat : Int) < 97
      · simp only [if_pos h2, smallB, decide_eq_false (show ¬ (97 : Int) ≤ c.toNat by omega), Bool.false_and]
        exact Ev.now _
      · by_cases h3 : (c.toNat : Int) > 122
        · simp only [if_neg h2, if_pos h3, smallB, decide_eq_false (show ¬ (c.toNat : Int) ≤ 122 by omega), Bool.false_and, Bool.and_false]
          exact Ev.now _
        · simp only [if_neg h2, if_neg h3, smallB, decide_eq_true (show (97 : Int) ≤ c.toNat by omega), decide_eq_true (show (c.toNat : Int) ≤ 122 by omega), Bool.true_and]
          exact Ev.bind ho (Ev.now _)
theorem toList_eq (s : ByteArray) : s.toList = s.data.toList := by
  have := Lib.toList_data s
  first | exact this | exact this.symm
theorem specName_ev (s : ByteArray) (h : s.size ≤ 1048576) : Ev (fun k => spec_l01Name.f k s) (nameOk s) := by
  unfold spec_l01Name.f nameOk
  have hj : Ev (fun k => spec_l01Name.j0 k s true) false := by
    refine Ev.step (fun k => spec_l01Name.j0.eq_2 _ _ k) ?_
    simp only [if_true]
    exact Ev.now _
  cases hl : s.data.toList with
  | nil =>
    simp only [toList_eq, hl, if_true]
    exact hj
  | cons c l =>
    have hz : s.size = l.length + 1 := by rw [size_len', hl]; rfl
    simp only [toList_eq, hl, reduceCtorEq, if_false, if_pos (show (0 : Int) < (s.size : Int) by omega), head_at s c l hl, small_eq, Option.bind_some]
    by_cases h1 : (s.size : Int) > 10
    · simp only [if_pos h1, decide_eq_false (show ¬ (s.size : Int) ≤ 10 by omega), Bool.false_and]
      exact hj
    simp only [if_neg h1, decide_eq_true (show (s.size : Int) ≤ 10 by omega), Bool.true_and]
    cases hs : smallB c with
    | false =>
      simp only [Bool.not_false, Bool.false_and]
      exact hj
    | true =>
      simp only [Bool.not_true, Bool.true_and]
      refine Ev.step (fun k => spec_l01Name.j0.eq_2 _ _ k) ?_
      simp only [Bool.false_eq_true, if_false]
      rw [← hl]
      rw [size_len'] at h
      have := all_ev (L := fun k i => spec_l01Name.l0 k s i) s.data.toList nameB true ?_ ?_ ?_
      · simpa using this
      · intro i hi hp P K
        refine EvP.step (fun k => spec_l01Name.l0.eq_2 _ _ k) ?_
        simp only [size_len, if_pos (show (i : Int) < (s.data.toList.length : Int) by omega), if_pos (show (0 : Int) ≤ (i : Int) by omega), bytes_at_ s i hi, w64 (show -9223372036854775808 ≤ (i : Int) + 1 by omega) (by omega), small_eq, dig_eq, Option.bind_some]
        cases h2 : smallB s.data.toList[i] with
        | true => simp only [if_true]; exact K
        | false =>
          simp only [nameB, h2, Bool.false_or] at hp
          simp only [hp, Bool.false_eq_true, if_false, if_true]
          exact K
      · intro i hi hp
        refine Ev.step (fun k => spec_l01Name.l0.eq_2 _ _ k) ?_
        simp only [nameB, Bool.or_eq_false_iff] at hp
        simp only [size_len, if_pos (show (i : Int) < (s.data.toList.length : Int) by omega), if_pos (show (0 : Int) ≤ (i : Int) by omega), bytes_at_ s i hi, w64 (show -9223372036854775808 ≤ (i : Int) + 1 by omega) (by omega), small_eq, dig_eq, Option.bind_some, hp.1, hp.2, Bool.false_eq_true, if_false]
        exact Ev.now _
      · refine Ev.step (fun k => spec_l01Name.l0.eq_2 _ _ k) ?_
        simp only [size_len, if_neg (show ¬ (s.data.toList.length : Int) < (s.data.toList.length : Int) by omega)]
        exact Ev.now _
end Go.Proofs.YtkllogmpaaeokaaGreatDoor.PBasics
end

section
namespace Go.Proofs.YtkllogmpaaeokaaGreatDoor.EvK
open Go.RowKit Go.Proofs.YtkllogmpaaeokaaGreatDoorW.PrintWords
set_option linter.unusedVariables false
theorem all_to {α ρ : Type} {L : Nat → Int → Option ρ} (l : List α) (p : α → Bool) (yes no : ρ)
    (step : ∀ (i : Nat) (h : i < l.length), p l[i] = true → ∀ P, EvP (fun k => L k ((i : Int) + 1)) P → EvP (fun k => L k i) P)
    (stop : ∀ (i : Nat) (h : i < l.length), p l[i] = false → Ev (fun k => L k i) no)
    (fin : l.all p = true → Ev (fun k => L k l.length) yes) : Ev (fun k => L k 0) (if l.all p = true then yes else no) := by
  apply EvP.eq
  refine for_evp (L := fun k (_ : Unit) i => L k i) l.length (fun i _ => ∀ x ∈ l.take i, p x = true) ?_ ?_ () (by simp)
  · intro i _ hi hs K
    cases hp : p l[i] with
    | true => exact step i hi hp _ (K () (take_all hi hs hp))
    | false =>
      have e : l.all p = false := by
        rw [List.all_eq_false]
        exact ⟨l[i], List.getElem_mem hi, by simp [hp]⟩
      rw [e]
      exact EvP.of (stop i hi hp) rfl
  · intro _ hs
    have e : l.all p = true := by
      rw [List.all_eq_true]
      simpa using hs
    rw [e]
    exact EvP.of (fin e) rfl
theorem contains_byte (l : List UInt8) (c : UInt8) : Lib.contains l [c] = !(l.all (fun x => !(x == c))) := by
  unfold Lib.contains
  rw [Lib.index_one]
  by_cases h : 0 ≤ Lib.indexByte l c
  · obtain ⟨h1, _⟩ := Lib.indexByte_some (l := l) (c := c) (o := (Lib.indexByte l c).toNat) (by omega)
    have e : l.all (fun x => !(x == c)) = false := by
      rw [List.all_eq_false]
      exact ⟨c, List.mem_of_getElem? h1, by simp⟩
    rw [decide_eq_true h, e]; rfl
  · have hm : Lib.indexByte l c = -1 := by have := Lib.indexByte_ge l c; omega
    have hn := Lib.indexByte_none hm
    have e : l.all (fun x => !(x == c)) = true := by
      rw [List.all_eq_true]
      intro x hx
      obtain ⟨k, hk⟩ := List.getElem?_of_mem hx
      have := hn k
      rw [hk] at this
      simpa using this
    rw [decide_eq_false h, e]; rfl
end Go.Proofs.YtkllogmpaaeokaaGreatDoor.EvK
end

section
namespace Go.Proofs.YtkllogmpaaeokaaGreatDoor.PBlocks
open Go.RowKit Go.Proofs.YtkllogmpaaeokaaGreatDoorW.PrintWords Go.Proofs.YtkllogmpaaeokaaGreatDoor.XT Go.Proofs.YtkllogmpaaeokaaGreatDoor.EvK Go.Proofs.YtkllogmpaaeokaaGreatDoor.PBasics
set_option linter.unusedVariables false
set_option linter.unusedSimpArgs false
def noNl (t : ByteArray) : Bool := t.data.toList.all (fun x => !(x == 10))
def blockOk (a b t : ByteArray) : Bool := nameOk a && (nameOk b && (decide ((t.size : Int) ≤ 400) && noNl t))
theorem validBlock_ev (a b t : ByteArray) (ha : a.size ≤ 1048576) (hb : b.size ≤ 1048576) (ht : t.size ≤ 1048576) : Ev (fun k => impl_ValidBlock.f k a b t) (blockOk a b t) := by
  unfold impl_ValidBlock.f blockOk strings_Contains.f
  rw [if_pos (show t.size < 4294967281 by omega)]
  refine Ev.bind (isName_ev a ha) ?_
  cases nameOk a with
  | false => exact Ev.now _
  | true =>
    simp only [if_true, Bool.true_and]
    refine Ev.bind (isName_ev b hb) ?_
    cases nameOk b with
    | false => exact Ev.now _
    | true =>
      simp only [if_true, Bool.true_and]
      by_cases h : (t.size : Int) ≤ 400
      · simp only [if_pos h, Option.bind_some, decide_eq_true h, Bool.true_and, contains_byte t.data.toList 10, Bool.not_not]
        exact Ev.now _
      · simp only [if_neg h, decide_eq_false h, Bool.false_and]
        exact Ev.now _
theorem oneBlock_ev (a b t : ByteArray) (ha : a.size ≤ 1048576) (hb : b.size ≤ 1048576) (ht : t.size ≤ 1048576) : Ev (fun k => spec_l29One.f k a b t) (blockOk a b t) := by
  unfold spec_l29One.f
  rw [size_len'] at ht
  have e : blockOk a b t = if (t.data.toList.all fun x => !(x == 10)) = true then (nameOk a && (nameOk b && decide ((t.size : Int) ≤ 400))) else false := by
    unfold blockOk noNl
    cases (t.data.toList.all fun x => !(x == 10)) <;> simp
  rw [e]
  refine all_to (L := fun k i => spec_l29One.l0 k i a b t) t.data.toList _ _ _ ?_ ?_ ?_
  · intro i hi hp P K
    refine EvP.step (fun k => spec_l29One.l0.eq_2 _ _ _ _ k) ?_
    have hn : ¬ ((t.data.toList[i].toNat : Int) = 10) := by
      intro h
      have : t.data.toList[i] = 10 := UInt8.toNat_inj.1 (by rw [show ((10 : UInt8).toNat) = 10 from rfl]; omega)
      rw [this] at hp
      exact absurd hp (by decide)
    simp only [size_len, if_pos (show (i : Int) < (t.data.toList.length : Int) by omega), if_pos (show (0 : Int) ≤ (i : Int) by omega), bytes_at_ t i hi, if_neg hn, w64 (show -9223372036854775808 ≤ (i : Int) + 1 by omega) (by omega)]
    simpa only [size_len] using K
  · intro i hi hp
    refine Ev.step (fun k => spec_l29One.l0.eq_2 _ _ _ _ k) ?_
    have hn : ((t.data.toList[i].toNat : Int) = 10) := by
      have : t.data.toList[i] = 10 := by simpa using hp
      rw [this]; rfl
    simp only [size_len, if_pos (show (i : Int) < (t.data.toList.length : Int) by omega), if_pos (show (0 : Int) ≤ (i : Int) by omega), bytes_at_ t i hi, if_pos hn]
    exact Ev.now _
  · intro _
    refine Ev.step (fun k => spec_l29One.l0.eq_2 _ _ _ _ k) ?_
    simp only [size_len, if_neg (show ¬ (t.data.toList.length : Int) < (t.data.toList.length : Int) by omega)]
    refine Ev.bind (specName_ev a ha) ?_
    cases nameOk a with
    | false => exact Ev.now _
    | true =>
      simp only [if_true, Bool.true_and]
      refine Ev.bind (specName_ev b hb) ?_
      cases nameOk b with
      | false => exact Ev.now _
      | true =>
        simp only [if_true, Bool.true_and]
        exact Ev.now _
end Go.Proofs.YtkllogmpaaeokaaGreatDoor.PBlocks
end

section
namespace Go.Proofs.YtkllogmpaaeokaaGreatDoor.PCrc
open Go.RowKit Go.Proofs.YtkllogmpaaeokaaGreatDoorW.PrintWords Go.Proofs.YtkllogmpaaeokaaGreatDoor.XT Go.Proofs.YtkllogmpaaeokaaGreatDoor.EvK
set_option linter.unusedVariables false
set_option linter.unusedSimpArgs false
theorem xor16n (a b : Nat) (ha : a < 65536) (hb : b < 65536) : Go.bits .xor .i64 (a : Int) (b : Int) = ((a ^^^ b : Nat) : Int) := by
  have hx : a ^^^ b < 2 ^ 16 := Nat.xor_lt_two_pow (by omega) (by omega)
  have h1 : (BitVec.ofInt 64 (a : Int)).toNat = a := by
    rw [BitVec.ofInt_natCast, BitVec.toNat_ofNat]; exact Nat.mod_eq_of_lt (by omega)
  have h2 : (BitVec.ofInt 64 (b : Int)).toNat = b := by
    rw [BitVec.ofInt_natCast, BitVec.toNat_ofNat]; exact Nat.mod_eq_of_lt (by omega)
  show IntKind.i64.wrap ((BitVec.ofInt 64 (a : Int) ^^^ BitVec.ofInt 64 (b : Int)).toNat : Int) = _
  rw [BitVec.toNat_xor, h1, h2, IntKind.wrap_i64]
  omega
theorem xor16 (x y : Int) (hx0 : 0 ≤ x) (hx : x ≤ 65535) (hy0 : 0 ≤ y) (hy : y ≤ 65535) : 0 ≤ Go.bits .xor .i64 x y ∧ Go.bits .xor .i64 x y ≤ 65535 := by
  obtain ⟨a, rfl⟩ := Int.eq_ofNat_of_zero_le hx0
  obtain ⟨b, rfl⟩ := Int.eq_ofNat_of_zero_le hy0
  have h : a ^^^ b < 2 ^ 16 := Nat.xor_lt_two_pow (by omega) (by omega)
  rw [xor16n a b (by omega) (by omega)]
  omega
theorem and16 (x : Int) (hx0 : 0 ≤ x) (hx : x ≤ 131070) : 0 ≤ Go.bits .and .i64 x 65535 ∧ Go.bits .and .i64 x 65535 ≤ 65535 := by
  have h := bits_mask .i64 63 (by decide) (fun n h1 h2 => by rw [IntKind.wrap_i64]; omega) 16 (by decide) x hx0 (by omega)
  have e : ((2 : Int) ^ 16 - 1) = 65535 := by decide
  have e2 : ((2 : Int) ^ 16) = 65536 := by decide
  rw [e, e2] at h
  rw [h]
  omega
theorem both_crc (s : ByteArray) (hs : s.size ≤ 140737488355328) : ∀ (d q : Nat) (x : Int), q + d = s.size → 0 ≤ x → x ≤ 65535 → ∃ v : Int, 0 ≤ v ∧ v ≤ 65535 ∧ Ev (fun k => spec_l01Crc.l0 k s x (q : Int)) v ∧ Ev (fun k => impl_Crc16.l0 k s x (s.size : Int) (q : Int)) v := by
  intro d
  induction d with
  | zero =>
    intro q x hq h0 h1
    refine ⟨x, h0, h1, Ev.step (fun k => spec_l01Crc.l0.eq_2 _ _ _ k) ?_, Ev.step (fun k => impl_Crc16.l0.eq_2 _ _ _ _ k) ?_⟩
    · simp only [if_neg (show ¬ (q : Int) < (s.size : Int) by omega)]; exact Ev.now _
    · simp only [if_neg (show ¬ (q : Int) < (s.size : Int) by omega)]; exact Ev.now _
  | succ d ih =>
    intro q x hq h0 h1
    have hw := w64 (show -9223372036854775808 ≤ (q : Int) + 1 by omega) (by omega)
    have inner : ∀ (e j : Nat) (y : Int), j + e = 8 → 0 ≤ y → y ≤ 65535 → ∃ v : Int, 0 ≤ v ∧ v ≤ 65535 ∧ Ev (fun k => spec_l01Crc.l1 k s y (q : Int) (j : Int)) v ∧ Ev (fun k => impl_Crc16.l1 k s y (s.size : Int) (q : Int) (j : Int)) v := by
      intro e
      induction e with
      | zero =>
        intro j y hj y0 y1
        obtain ⟨v, v0, v1, e1, e2⟩ := ih (q + 1) y (by omega) y0 y1
        refine ⟨v, v0, v1, Ev.step (fun k => spec_l01Crc.l1.eq_2 _ _ _ _ k) ?_, Ev.step (fun k => impl_Crc16.l1.eq_2 _ _ _ _ _ k) ?_⟩
        · simp only [if_neg (show ¬ (j : Int) < 8 by omega), hw]; simpa using e1
        · simp only [if_neg (show ¬ (j : Int) < 8 by omega), hw]; simpa using e2
      | succ e ie =>
        intro j y hj y0 y1
        have wj := w64 (show -9223372036854775808 ≤ (j : Int) + 1 by omega) (by omega)
        have wy := w64 (show -9223372036854775808 ≤ y * 2 by omega) (by omega)
        by_cases hb : y * 2 > 65535
        · obtain ⟨a0, a1⟩ := and16 (y * 2) (by omega) (by omega)
          obtain ⟨b0, b1⟩ := xor16 _ 4129 a0 a1 (by omega) (by omega)
          obtain ⟨v, v0, v1, e1, e2⟩ := ie (j + 1) _ (by omega) b0 b1
          refine ⟨v, v0, v1, Ev.step (fun k => spec_l01Crc.l1.eq_2 _ _ _ _ k) ?_, Ev.step (fun k => impl_Crc16.l1.eq_2 _ _ _ _ _ k) ?_⟩
          · simp only [if_pos (show (j : Int) < 8 by omega), wj, wy, if_pos hb]; simpa using e1
          · simp only [if_pos (show (j : Int) < 8 by omega), wj, wy, if_pos hb]; simpa using e2
        · obtain ⟨v, v0, v1, e1, e2⟩ := ie (j + 1) (y * 2) (by omega) (by omega) (by omega)
          refine ⟨v, v0, v1, Ev.step (fun k => spec_l01Crc.l1.eq_2 _ _ _ _ k) ?_, Ev.step (fun k => impl_Crc16.l1.eq_2 _ _ _ _ _ k) ?_⟩
          · simp only [if_pos (show (j : Int) < 8 by omega), wj, wy, if_neg hb]; simpa using e1
          · simp only [if_pos (show (j : Int) < 8 by omega), wj, wy, if_neg hb]; simpa using e2
    have hr := bt_range s (q : Int)
    have w1 := w64 (show -9223372036854775808 ≤ bt s (q : Int) by omega) (by omega)
    have w2 := w64 (show -9223372036854775808 ≤ bt s (q : Int) * 256 by omega) (by omega)
    obtain ⟨b0, b1⟩ := xor16 x (bt s (q : Int) * 256) h0 h1 (by omega) (by omega)
    obtain ⟨v, v0, v1, e1, e2⟩ := inner 8 0 _ (by omega) b0 b1
    refine ⟨v, v0, v1, Ev.step (fun k => spec_l01Crc.l0.eq_2 _ _ _ k) ?_, Ev.step (fun k => impl_Crc16.l0.eq_2 _ _ _ _ k) ?_⟩
    · simp only [if_pos (show (q : Int) < (s.size : Int) by omega), if_pos (show (0 : Int) ≤ (q : Int) by omega), w1, w2]; simpa using e1
    · simp only [if_pos (show (q : Int) < (s.size : Int) by omega), if_pos (show (0 : Int) ≤ (q : Int) by omega), w1, w2]; simpa using e2
theorem crc_ev (s : ByteArray) (hs : s.size ≤ 140737488355328) : ∃ v : Int, 0 ≤ v ∧ v ≤ 65535 ∧ Ev (fun k => spec_l01Crc.f k s 65535) v ∧ Ev (fun k => impl_Crc16.f k s 65535) v := by
  obtain ⟨v, v0, v1, e1, e2⟩ := both_crc s hs s.size 0 65535 (by omega) (by omega) (by omega)
  refine ⟨v, v0, v1, ?_, ?_⟩
  · unfold spec_l01Crc.f; simpa using e1
  · unfold impl_Crc16.f impl_within.f
    simpa using e2
def D (u : Nat) : List Int := (Lib.decDigits u).map fun b => (b.toNat : Int)
theorem D_small (u : Nat) (h : u < 10) : D u = [48 + (u : Int)] := by
  unfold D
  rw [Lib.decDigits_one h]
  simp
  omega
theorem D_big (u : Nat) (h : ¬ u < 10) : D u = D (u / 10) ++ [48 + ((u % 10 : Nat) : Int)] := by
  unfold D
  rw [Lib.decDigits, dif_neg h]
  simp
  omega
theorem D_text (u : Nat) : strOfNums (D u) = (⟨(Lib.decDigits u).toArray⟩ : ByteArray) := by
  unfold D
  simp [strOfNums]
  refine (List.map_congr_left (g := id) (fun b _ => ?_)).trans (List.map_id _)
  simp
theorem back_ev (x : List Int) (hx : x.length ≤ 1000) : ∀ (d : Nat) (y : List Int), d ≤ x.length → y.length + d ≤ 1000 → Ev (fun k => spec_l01Dec.l1 k x y ((d : Int) - 1)) (strOfNums (y ++ (x.take d).reverse)) := by
  intro d
  induction d with
  | zero =>
    intro y _ _
    refine Ev.step (fun k => spec_l01Dec.l1.eq_2 _ _ _ k) ?_
    simp only [if_neg (show ¬ ((0 : Nat) : Int) - 1 ≥ 0 by omega)]
    exact Ev.some (by simp)
  | succ d ih =>
    intro y hd hy
    have h1 := ih (y ++ [rd x (d : Int)]) (by omega) (by rw [List.length_append]; simp only [List.length_cons, List.length_nil]; omega)
    refine Ev.step (fun k => spec_l01Dec.l1.eq_2 _ _ _ k) ?_
    simp only [show ((d + 1 : Nat) : Int) - 1 = (d : Int) by omega, if_pos (show (d : Int) ≥ 0 by omega), if_pos (show (0 : Int) ≤ (d : Int) by omega), if_pos (show (d : Int) < (x.length : Int) by omega), if_pos (show y.length < 140737488355328 by omega), w64 (show -9223372036854775808 ≤ (d : Int) - 1 by omega) (by omega)]
    have e : y ++ (x.take (d + 1)).reverse = y ++ [rd x (d : Int)] ++ (x.take d).reverse := by
      rw [List.take_succ_eq_append_getElem (by omega), rd_at x d (by omega)]
      simp
    rw [e]
    exact h1
theorem go_ev (n : Int) (hn : ¬ n < 0) : ∀ (f u : Nat) (x : List Int), u < 10 ^ f → f ≤ 19 → 0 < u → x.length + f ≤ 40 → Ev (fun k => spec_l01Dec.l0 k n x (u : Int)) (strOfNums ((x ++ (D u).reverse).reverse)) := by
  have fin : ∀ x : List Int, x.length ≤ 60 → Ev (fun k => spec_l01Dec.l0 k n x 0) (strOfNums x.reverse) := by
    intro x hx
    have h := back_ev x (by omega) x.length [] (by omega) (by simp; omega)
    refine Ev.step (fun k => spec_l01Dec.l0.eq_2 _ _ _ k) ?_
    simp only [if_true, if_neg hn]
    refine Ev.step (fun k => spec_l01Dec.j1.eq_2 _ k) ?_
    simp only [w64 (show -9223372036854775808 ≤ (x.length : Int) - 1 by omega) (by omega)]
    simpa using h
  intro f
  induction f with
  | zero => intro u x hu _ h0 _; omega
  | succ f ih =>
    intro u x hu hf h0 hx
    have hp : (10 : Nat) ^ (f + 1) ≤ 10 ^ 19 := Nat.pow_le_pow_right (by decide) hf
    have hp2 : (10 : Nat) ^ (f + 1) = 10 ^ f * 10 := Nat.pow_succ 10 f
    obtain ⟨a, ha⟩ : ∃ a : Int, a = ((u % 10 : Nat) : Int) := ⟨_, rfl⟩
    obtain ⟨b, hb⟩ : ∃ b : Int, b = ((u / 10 : Nat) : Int) := ⟨_, rfl⟩
    have t1 : Int.tmod (u : Int) 10 = a := by rw [Int.tmod_eq_emod_of_nonneg (by omega)]; omega
    have t2 : Int.tdiv (u : Int) 10 = b := by rw [Int.tdiv_eq_ediv_of_nonneg (by omega)]; omega
    have w1 : wrap64 (48 + a) % 256 = 48 + a := by rw [w64 (by omega) (by omega)]; omega
    have w2 : wrap64 b = b := w64 (by omega) (by omega)
    have c1 : ¬ (u : Int) = 0 := by omega
    have c2 : ¬ a < 0 := by omega
    have c3 : x.length < 140737488355328 := by omega
    have E : ∀ k, spec_l01Dec.l0 (k + 1) n x (u : Int) = spec_l01Dec.l0 k n (x ++ [48 + a]) b := by
      intro k
      rw [spec_l01Dec.l0.eq_2, if_neg c1, t1, if_neg c2, if_pos c3, w1, t2, w2]
    refine Ev.step E ?_
    clear E t1 t2 w1 w2
    by_cases h10 : u < 10
    · have e0 : b = 0 := by omega
      have e1 : (u : Int) = a := by omega
      have h := fin (x ++ [48 + a]) (by rw [List.length_append]; simp only [List.length_cons, List.length_nil]; omega)
      rw [e0, D_small u h10, e1, List.reverse_singleton]
      exact h
    · have h := ih (u / 10) (x ++ [48 + a]) (by omega) (by omega) (by omega) (by rw [List.length_append]; simp only [List.length_cons, List.length_nil]; omega)
      have e : x ++ (D u).reverse = x ++ [48 + a] ++ (D (u / 10)).reverse := by rw [D_big u h10, ← ha]; simp
      rw [e, hb]
      exact h
theorem dec_ev (u : Nat) (hu : u ≤ 9223372036854775807) : Ev (fun k => spec_l01Dec.f k (u : Int)) (⟨(Lib.itoa (u : Int)).toArray⟩ : ByteArray) := by
  have ei : Lib.itoa (u : Int) = Lib.decDigits u := by unfold Lib.itoa; rw [if_neg (by omega)]; rfl
  rw [ei]
  unfold spec_l01Dec.f
  by_cases h0 : u = 0
  · subst h0
    simp only [Int.natCast_zero, if_true]
    refine Ev.some ?_
    rw [Lib.decDigits_one (by omega)]
    rfl
  · simp only [if_neg (show ¬ (u : Int) = 0 by omega)]
    have h := go_ev (u : Int) (by omega) 19 u [] (by omega) (by omega) (by omega) (by simp)
    rw [← D_text]
    simpa using h
theorem dec_eq (u : Nat) (hu : u ≤ 9223372036854775807) : impl_Decimal.f (u : Int) = some (⟨(Lib.itoa (u : Int)).toArray⟩ : ByteArray) := by
  unfold impl_Decimal.f strconv_FormatInt.f
  rw [if_pos ⟨rfl, by omega, by omega⟩]
  rfl
theorem itoa_size (u f : Nat) (h : u < 10 ^ f) (hf : 0 < f) : (⟨(Lib.itoa (u : Int)).toArray⟩ : ByteArray).size ≤ f := by
  have ei : Lib.itoa (u : Int) = Lib.decDigits u := by unfold Lib.itoa; rw [if_neg (by omega)]; rfl
  have hs : (⟨(Lib.itoa (u : Int)).toArray⟩ : ByteArray).size = (Lib.decDigits u).length := by rw [ei]; simp [ByteArray.size]
  rw [hs, Lib.decDigits_length]
  apply Nat.le_of_not_lt
  intro hc
  have key : ∀ (f u : Nat), u < 10 ^ f → 0 < f → Lib.nDigits u ≤ f := by
    intro f
    induction f with
    | zero => intro u _ h; omega
    | succ f ih =>
      intro u h _
      by_cases h10 : u < 10
      · rw [Lib.nDigits_small h10]; omega
      · rw [Lib.nDigits_big h10]
        rw [Nat.pow_succ] at h
        by_cases hf0 : f = 0
        · subst hf0; omega
        · have := ih (u / 10) (by omega) (by omega); omega
  have := key f u h hf
  omega
theorem zeros_succ (n : Nat) (t : ByteArray) : impl_checkText.zeros n ++ ((⟨#[48]⟩ : ByteArray) ++ t) = impl_checkText.zeros (n + 1) ++ t := by
  have e : ∀ n, Lib.repeatL (⟨#[48]⟩ : ByteArray).data.toList n = List.replicate n 48 := by
    intro n
    induction n with
    | zero => rfl
    | succ n ih => first | (rw [Lib.repeatL, ih]; rfl) | (simp [Lib.repeatL, List.replicate_succ] at *; done)
  apply ByteArray.ext
  apply Array.toList_inj.1
  unfold impl_checkText.zeros
  rw [e, e]
  simp [List.replicate_succ', ByteArray.data_append]
theorem five_ev : ∀ (n : Nat) (t : ByteArray), n + t.size = 5 → Ev (fun k => spec_l29Five.l0 k t) (impl_checkText.zeros n ++ t) := by
  intro n
  induction n with
  | zero =>
    intro t h
    refine Ev.step (fun k => spec_l29Five.l0.eq_2 _ k) ?_
    simp only [if_neg (show ¬ (t.size : Int) < 5 by omega)]
    refine Ev.some ?_
    apply ByteArray.ext
    apply Array.toList_inj.1
    simp [impl_checkText.zeros, Lib.repeatL, ByteArray.data_append]
  | succ n ih =>
    intro t h
    have hz : ((⟨#[48]⟩ : ByteArray) ++ t).size = 1 + t.size := by rw [ByteArray.size_append]; rfl
    have h1 := ih ((⟨#[48]⟩ : ByteArray) ++ t) (by omega)
    rw [zeros_succ] at h1
    refine Ev.step (fun k => spec_l29Five.l0.eq_2 _ k) ?_
    simp only [if_pos (show (t.size : Int) < 5 by omega), if_pos (show 1 + t.size ≤ 9223372036854775807 by omega)]
    exact h1
theorem zeros_size (n : Nat) : (impl_checkText.zeros n).size = n := by
  unfold impl_checkText.zeros
  have e : ∀ n, (Lib.repeatL (⟨#[48]⟩ : ByteArray).data.toList n).length = n := by
    intro n
    rw [Lib.repeatL_length]
    exact Nat.mul_one n
  rw [ByteArray.size]
  simpa using e n
theorem check_ev (s : ByteArray) (hs : s.size ≤ 140737488355328) : ∃ (v : Int) (c : ByteArray), c.size = 5 ∧ Ev (fun k => impl_checkText.f k s) c ∧ Ev (fun k => spec_l01Crc.f k s 65535) v ∧ Ev (fun k => spec_l29Five.f k v) c := by
  obtain ⟨v, v0, v1, e1, e2⟩ := crc_ev s hs
  obtain ⟨u, rfl⟩ := Int.eq_ofNat_of_zero_le v0
  have h5 := itoa_size u 5 (by omega) (by omega)
  have hd := dec_ev u (by omega)
  have he := dec_eq u (by omega)
  generalize (⟨(Lib.itoa (u : Int)).toArray⟩ : ByteArray) = d at h5 hd he
  refine ⟨u, impl_checkText.zeros (5 - d.size) ++ d, by rw [ByteArray.size_append, zeros_size]; omega, ?_, e1, ?_⟩
  · unfold impl_checkText.f
    refine Ev.bind e2 ?_
    simp only [he, Option.bind_some, if_pos h5]
    exact Ev.now _
  · unfold spec_l29Five.f
    exact Ev.bind hd (five_ev (5 - d.size) d (by omega))
end Go.Proofs.YtkllogmpaaeokaaGreatDoor.PCrc
end

section
namespace Go.Proofs.YtkllogmpaaeokaaGreatDoor.PSplit
open Go.RowKit Go.Proofs.YtkllogmpaaeokaaGreatDoorW.PrintWords Go.Proofs.YtkllogmpaaeokaaGreatDoor.XT Go.Proofs.YtkllogmpaaeokaaGreatDoor.EvK
set_option linter.unusedVariables false
set_option linter.unusedSimpArgs false
def sp (c : UInt8) : List UInt8 → List UInt8 → List (List UInt8)
  | acc, [] => [acc]
  | acc, b :: l => if b = c then acc :: sp c [] l else sp c (acc ++ [b]) l
theorem sp_none (c : UInt8) : ∀ (l acc : List UInt8), c ∉ l → sp c acc l = [acc ++ l]
  | [], acc, _ => by simp [sp]
  | b :: l, acc, h => by
    rw [List.mem_cons, not_or] at h
    rw [sp, if_neg (fun e => h.1 e.symm), sp_none c l _ h.2]
    simp
theorem sp_some (c : UInt8) : ∀ (a r acc : List UInt8), c ∉ a → sp c acc (a ++ c :: r) = (acc ++ a) :: sp c [] r
  | [], r, acc, _ => by simp [sp]
  | b :: a, r, acc, h => by
    rw [List.mem_cons, not_or] at h
    rw [List.cons_append, sp, if_neg (fun e => h.1 e.symm), sp_some c a r _ h.2]
    simp
theorem sp_join (c : UInt8) : ∀ (l acc : List UInt8), ∃ init last, sp c acc l = init ++ [last] ∧ acc ++ l = init.flatMap (· ++ [c]) ++ last
  | [], acc => ⟨[], acc, rfl, by simp⟩
  | b :: l, acc => by
    rw [sp]
    by_cases h : b = c
    · rw [if_pos h]
      obtain ⟨i, z, h1, h2⟩ := sp_join c l []
      refine ⟨acc :: i, z, by rw [h1]; rfl, ?_⟩
      rw [List.nil_append] at h2
      rw [h2, h]
      simp
    · rw [if_neg h]
      obtain ⟨i, z, h1, h2⟩ := sp_join c l (acc ++ [b])
      exact ⟨i, z, h1, by rw [← h2]; simp⟩
theorem data_inj {a b : ByteArray} (h : a.data.toList = b.data.toList) : a = b := ByteArray.ext (Array.ext' h)
theorem lists_eq : ∀ {l l' : List ByteArray}, l.map (·.data.toList) = l'.map (·.data.toList) → l = l'
  | [], [], _ => rfl
  | [], _ :: _, h => by simp at h
  | _ :: _, [], h => by simp at h
  | a :: l, b :: l', h => by
    simp only [List.map_cons, List.cons.injEq] at h
    rw [data_inj h.1, lists_eq h.2]
theorem extract_list (s : ByteArray) (a b : Nat) : (s.extract a b).data.toList = (s.data.toList.drop a).take (b - a) := by
  simp [ByteArray.data_extract, Array.toList_extract, List.extract_eq_take_drop]
theorem split_ev (s : ByteArray) (c : UInt8) (hs : s.size ≤ 1048576) : ∃ r : List ByteArray, Ev (fun k => spec_l01Split.f k s (c.toNat : Int)) r ∧ r.map (·.data.toList) = sp c [] s.data.toList := by
  obtain ⟨L, hL⟩ : ∃ L, L = s.data.toList := ⟨_, rfl⟩
  have hsz : s.size = L.length := by rw [hL]; exact size_len' s
  suffices h : EvP (fun k => spec_l01Split.f k s (c.toNat : Int)) (fun r => r.map (·.data.toList) = sp c [] L) by
    obtain ⟨r, h1, h2⟩ := h
    exact ⟨r, h1, by rw [← hL]; exact h2⟩
  unfold spec_l01Split.f
  refine for_evp (L := fun k (x : List ByteArray × Nat) i => spec_l01Split.l0 k s (c.toNat : Int) x.1 (x.2 : Int) i) L.length
    (fun i x => x.2 ≤ i ∧ x.1.length ≤ i ∧ x.1.map (·.data.toList) ++ sp c ((L.drop x.2).take (i - x.2)) (L.drop i) = sp c [] L) ?_ ?_ ([], 0) (by simp)
  · rintro i ⟨acc, st⟩ hi ⟨h1, h2, h3⟩ K
    simp only at h1 h2 h3
    have hb : bt s (i : Int) = ((L[i]).toNat : Int) := by
      have := bytes_at_ s i (by rw [← hL]; exact hi)
      simpa only [← hL] using this
    have hd : L.drop i = L[i] :: L.drop (i + 1) := List.drop_eq_getElem_cons hi
    refine EvP.step (fun k => spec_l01Split.l0.eq_2 _ _ _ _ _ k) ?_
    simp only [hsz, if_pos (show (i : Int) < (L.length : Int) by omega), if_pos (show (0 : Int) ≤ (i : Int) by omega), hb, if_pos (show (0 : Int) ≤ (st : Int) by omega), if_pos (show (st : Int) ≤ (i : Int) by omega), if_pos (show (i : Int) ≤ (L.length : Int) by omega), if_pos (show acc.length < 8796093022208 by omega), w64 (show -9223372036854775808 ≤ (i : Int) + 1 by omega) (by omega), Int.toNat_natCast]
    rw [hd, sp] at h3
    by_cases hc : L[i] = c
    · rw [if_pos hc] at h3
      simp only [hc, if_true]
      have := K (acc ++ [s.extract st i], i + 1) ⟨Nat.le_refl _, by simp; omega, ?_⟩
      · simpa using this
      · simp only [List.map_append, List.map_cons, List.map_nil, extract_list, ← hL, Nat.sub_self, List.take_zero, List.append_assoc, List.cons_append, List.nil_append]
        exact h3
    · rw [if_neg hc] at h3
      have hne : ¬ ((L[i]).toNat : Int) = (c.toNat : Int) := fun e => hc (UInt8.toNat_inj.1 (by omega))
      simp only [if_neg hne]
      refine K (acc, st) ⟨by simp only; omega, by simp only; omega, ?_⟩
      simp only
      rw [← h3]
      congr 2
      rw [show i + 1 - st = (i - st) + 1 by omega, List.take_succ_eq_append_getElem (by rw [List.length_drop]; omega)]
      congr 2
      rw [List.getElem_drop]
      congr 1
      omega
  · rintro ⟨acc, st⟩ ⟨h1, h2, h3⟩
    simp only at h1 h2 h3
    refine EvP.step (fun k => spec_l01Split.l0.eq_2 _ _ _ _ _ k) ?_
    simp only [hsz, if_neg (show ¬ (L.length : Int) < (L.length : Int) by omega), if_pos (show (0 : Int) ≤ (st : Int) by omega), if_pos (show (st : Int) ≤ (L.length : Int) by omega), if_pos (show acc.length < 8796093022208 by omega), Int.toNat_natCast]
    refine EvP.now ?_
    rw [List.drop_of_length_le (Nat.le_refl _), sp] at h3
    rw [← h3]
    simp only [List.map_append, List.map_cons, List.map_nil, extract_list, ← hL]
theorem index_at (s : ByteArray) (c : UInt8) : Lib.indexB s ⟨#[c]⟩ = Lib.indexByte s.data.toList c := Lib.index_one _ _
theorem splitB_sp (c : UInt8) : ∀ (k : Nat) (s : ByteArray), Lib.countB s ⟨#[c]⟩ = k → (Lib.splitB ⟨#[c]⟩ 0 k s).map (·.data.toList) = sp c [] s.data.toList := by
  have hc1 : (⟨#[c]⟩ : ByteArray).size = 1 := rfl
  have miss : ∀ s : ByteArray, Lib.indexB s ⟨#[c]⟩ = -1 → [s].map (·.data.toList) = sp c [] s.data.toList := by
    intro s h
    rw [index_at] at h
    have hn := Lib.indexByte_none h
    rw [sp_none c _ _ (fun hm => by obtain ⟨q, hq⟩ := List.getElem?_of_mem hm; exact hn q hq)]
    simp
  intro k
  induction k with
  | zero =>
    intro s hs
    rcases Lib.indexB_cases s ⟨#[c]⟩ with h | ⟨i, h, _⟩
    · exact miss s h
    · have := Lib.countB_hit s ⟨#[c]⟩ i (by rw [hc1]; omega) h
      omega
  | succ k ih =>
    intro s hs
    rcases Lib.indexB_cases s ⟨#[c]⟩ with h | ⟨i, h, hi⟩
    · rw [Lib.splitB_miss _ _ _ _ h]
      exact miss s h
    · have hcount := Lib.countB_hit s ⟨#[c]⟩ i (by rw [hc1]; omega) h
      rw [hc1] at hi hcount
      have hk := ih (s.extract (i + 1) s.size) (by omega)
      have hL := size_len' s
      have h2 := h
      rw [index_at] at h2
      obtain ⟨g1, g2⟩ := Lib.indexByte_some h2
      obtain ⟨g3, g4⟩ := List.getElem?_eq_some_iff.1 g1
      have e : s.data.toList = s.data.toList.take i ++ c :: s.data.toList.drop (i + 1) := by
        rw [← g4, ← List.drop_eq_getElem_cons g3, List.take_append_drop]
      have hna : c ∉ s.data.toList.take i := by
        intro hm
        obtain ⟨q, hq⟩ := List.getElem?_of_mem hm
        rw [List.getElem?_take] at hq
        split at hq
        · exact g2 q (by assumption) hq
        · cases hq
      unfold Lib.splitB
      rw [if_neg (by rw [h]; simp), List.map_cons, h, Int.toNat_natCast, hc1, hk, extract_list, extract_list]
      conv => rhs; rw [e, sp_some c _ _ _ hna]
      rw [List.nil_append, List.drop_zero, Nat.sub_zero, Nat.add_zero]
      congr 2
      exact List.take_of_length_le (by rw [List.length_drop]; omega)
end Go.Proofs.YtkllogmpaaeokaaGreatDoor.PSplit
end

section
namespace Go.Proofs.YtkllogmpaaeokaaGreatDoor.PParse
open Go.RowKit Go.Proofs.YtkllogmpaaeokaaGreatDoorW.PrintWords Go.Proofs.YtkllogmpaaeokaaGreatDoor.XT Go.Proofs.YtkllogmpaaeokaaGreatDoor.EvK Go.Proofs.YtkllogmpaaeokaaGreatDoor.PBasics Go.Proofs.YtkllogmpaaeokaaGreatDoor.PBlocks Go.Proofs.YtkllogmpaaeokaaGreatDoor.PCrc Go.Proofs.YtkllogmpaaeokaaGreatDoor.PSplit
set_option linter.unusedVariables false
set_option linter.unusedSimpArgs false
theorem first_at (R : List UInt8) (c : UInt8) : ∀ (d p : Nat), p + d = R.length → ∃ q, p ≤ q ∧ q ≤ R.length ∧ (∀ j, p ≤ j → j < q → R[j]? ≠ some c) ∧ (q < R.length → R[q]? = some c) := by
  intro d
  induction d with
  | zero => intro p hp; exact ⟨p, Nat.le_refl _, by omega, fun j h1 h2 => by omega, fun h => by omega⟩
  | succ d ih =>
    intro p hp
    by_cases h : R[p]? = some c
    · exact ⟨p, Nat.le_refl _, by omega, fun j h1 h2 => by omega, fun _ => h⟩
    · obtain ⟨q, h1, h2, h3, h4⟩ := ih (p + 1) (by omega)
      refine ⟨q, by omega, h2, fun j g1 g2 => ?_, h4⟩
      by_cases e : j = p
      · rw [e]; exact h
      · exact h3 j (by omega) g2
theorem bt_eq (s : ByteArray) (j : Nat) (hj : j < s.size) (c : UInt8) : bt s (j : Int) = (c.toNat : Int) ↔ s.data.toList[j]? = some c := by
  have hl : j < s.data.toList.length := by rw [size_len'] at hj; exact hj
  rw [bytes_at_ s j hl, List.getElem?_eq_getElem hl, Option.some.injEq]
  constructor
  · intro h; exact UInt8.toNat_inj.1 (by omega)
  · intro h; rw [h]
theorem indexB_none (s : ByteArray) (c : UInt8) (h : ∀ j, j < s.size → s.data.toList[j]? ≠ some c) : Lib.indexB s ⟨#[c]⟩ = -1 := by
  rcases Lib.indexB_cases s ⟨#[c]⟩ with h' | ⟨i, h', hi⟩
  · exact h'
  · rw [index_at] at h'
    obtain ⟨g1, _⟩ := Lib.indexByte_some h'
    exact absurd g1 (h i (by have := (List.getElem?_eq_some_iff.1 g1).1; rw [size_len']; exact this))
theorem indexB_some (s : ByteArray) (c : UInt8) (i : Nat) (hi : s.data.toList[i]? = some c) (h : ∀ j, j < i → s.data.toList[j]? ≠ some c) : Lib.indexB s ⟨#[c]⟩ = i := by
  rcases Lib.indexB_cases s ⟨#[c]⟩ with h' | ⟨q, h', hq⟩
  · rw [index_at] at h'
    exact absurd hi (Lib.indexByte_none h' i)
  · rw [index_at] at h' ⊢
    obtain ⟨g1, g2⟩ := Lib.indexByte_some h'
    rw [h']
    rcases Nat.lt_trichotomy q i with hl | hl | hl
    · exact absurd g1 (h q hl)
    · rw [hl]
    · exact absurd hi (g2 i hl)
theorem cut_miss (s : ByteArray) (c : UInt8) (hs : s.size ≤ 1048576) (h : ∀ j, j < s.size → s.data.toList[j]? ≠ some c) : strings_Cut.f s ⟨#[c]⟩ = some (s, ByteArray.empty, false) := by
  obtain ⟨e1, e2, e3⟩ := Lib.cutB_miss s ⟨#[c]⟩ (indexB_none s c h)
  unfold strings_Cut.f
  rw [if_pos (by omega), e1, e2, e3]
theorem cut_hit (s : ByteArray) (c : UInt8) (hs : s.size ≤ 1048576) (i : Nat) (hi : s.data.toList[i]? = some c) (h : ∀ j, j < i → s.data.toList[j]? ≠ some c) : strings_Cut.f s ⟨#[c]⟩ = some (s.extract 0 i, s.extract (i + 1) s.size, true) := by
  obtain ⟨e1, e2, e3⟩ := Lib.cutB_hit s ⟨#[c]⟩ i (indexB_some s c i hi h)
  unfold strings_Cut.f
  rw [if_pos (by omega), e1, e2, e3]
  rfl
abbrev none4 : ByteArray × ByteArray × ByteArray × Int := ((⟨#[]⟩ : ByteArray), (⟨#[]⟩ : ByteArray), (⟨#[]⟩ : ByteArray), 9)
theorem loop1 (R : ByteArray) (hR : R.size ≤ 1048576) (i : Nat) (q : Nat) (hq : q ≤ R.size + 1) {P : ByteArray × ByteArray × ByteArray × Int → Prop} : ∀ (d p : Nat), p + d = q → (∀ j, p ≤ j → j < q → R.data.toList[j]? ≠ some 32) → (q < R.size → R.data.toList[q]? = some 32) →
    (q = R.size + 1 → p = q) →
    EvP (fun k => spec_l29Parse.j4 k R (i : Int) (q : Int)) P → EvP (fun k => spec_l29Parse.l1 k R (i : Int) (p : Int)) P := by
  intro d
  induction d with
  | zero =>
    intro p hp hn hs hz K
    obtain rfl : p = q := by omega
    refine EvP.step (fun k => spec_l29Parse.l1.eq_2 _ _ _ k) ?_
    by_cases hlt : (p : Int) < (R.size : Int)
    · simp only [if_pos hlt, if_pos (show (0 : Int) ≤ (p : Int) by omega), if_pos (show bt R (p : Int) = 32 from (bt_eq R p (by omega) 32).2 (hs (by omega)))]
      exact K
    · simp only [if_neg hlt]
      exact K
  | succ d ih =>
    intro p hp hn hs hz K
    refine EvP.step (fun k => spec_l29Parse.l1.eq_2 _ _ _ k) ?_
    have hlt : (p : Int) < (R.size : Int) := by omega
    have hne : ¬ bt R (p : Int) = 32 := fun e => hn p (Nat.le_refl _) (by omega) ((bt_eq R p (by omega) 32).1 e)
    simp only [if_pos hlt, if_pos (show (0 : Int) ≤ (p : Int) by omega), if_neg hne, w64 (show -9223372036854775808 ≤ (p : Int) + 1 by omega) (by omega)]
    have := ih (p + 1) (by omega) (fun j h1 h2 => hn j (by omega) h2) hs (by omega) K
    simpa using this
theorem loop0 (R : ByteArray) (hR : R.size ≤ 1048576) (q : Nat) (hq : q ≤ R.size) {P : ByteArray × ByteArray × ByteArray × Int → Prop} : ∀ (d p : Nat), p + d = q → (∀ j, p ≤ j → j < q → R.data.toList[j]? ≠ some 32) → (q < R.size → R.data.toList[q]? = some 32) →
    EvP (fun k => spec_l29Parse.l1 k R (q : Int) ((q : Int) + 1)) P → EvP (fun k => spec_l29Parse.l0 k R (p : Int)) P := by
  have fin : ∀ P : ByteArray × ByteArray × ByteArray × Int → Prop, EvP (fun k => spec_l29Parse.l1 k R (q : Int) ((q : Int) + 1)) P → EvP (fun k => spec_l29Parse.j2 k R (q : Int)) P := by
    intro P K
    refine EvP.step (fun k => spec_l29Parse.j2.eq_2 _ _ k) ?_
    simp only [w64 (show -9223372036854775808 ≤ (q : Int) + 1 by omega) (by omega)]
    exact K
  intro d
  induction d with
  | zero =>
    intro p hp hn hs K
    obtain rfl : p = q := by omega
    refine EvP.step (fun k => spec_l29Parse.l0.eq_2 _ _ k) ?_
    by_cases hlt : (p : Int) < (R.size : Int)
    · simp only [if_pos hlt, if_pos (show (0 : Int) ≤ (p : Int) by omega), if_pos (show bt R (p : Int) = 32 from (bt_eq R p (by omega) 32).2 (hs (by omega)))]
      exact fin _ K
    · simp only [if_neg hlt]
      exact fin _ K
  | succ d ih =>
    intro p hp hn hs K
    refine EvP.step (fun k => spec_l29Parse.l0.eq_2 _ _ k) ?_
    have hlt : (p : Int) < (R.size : Int) := by omega
    have hne : ¬ bt R (p : Int) = 32 := fun e => hn p (Nat.le_refl _) (by omega) ((bt_eq R p (by omega) 32).1 e)
    simp only [if_pos hlt, if_pos (show (0 : Int) ≤ (p : Int) by omega), if_neg hne, w64 (show -9223372036854775808 ≤ (p : Int) + 1 by omega) (by omega)]
    have := ih (p + 1) (by omega) (fun j h1 h2 => hn j (by omega) h2) hs K
    simpa using this
theorem ex_size (s : ByteArray) (a b : Nat) (hb : b ≤ s.size) : (s.extract a b).size = b - a := by
  rw [ByteArray.size_extract]
  omega
def Good4 (r : ByteArray × ByteArray × ByteArray × Int) : Prop := r.1.size ≤ 1048576 ∧ r.2.1.size ≤ 1048576 ∧ r.2.2.1.size ≤ 1048576 ∧ (r.2.2.2 = 0 → blockOk r.1 r.2.1 r.2.2.1 = true) ∧ 0 ≤ r.2.2.2 ∧ r.2.2.2 ≤ 10
theorem good_none (c : Int) (h : c = 9 ∨ c = 10) : Good4 ((⟨#[]⟩ : ByteArray), (⟨#[]⟩ : ByteArray), (⟨#[]⟩ : ByteArray), c) := ⟨Nat.zero_le _, Nat.zero_le _, Nat.zero_le _, fun e => by simp only at e; omega, by simp only; omega, by simp only; omega⟩
theorem parse_ev (s : ByteArray) (hs : s.size ≤ 1048576) : ∃ r, Good4 r ∧ Ev (fun k => spec_l29Parse.f k s) r ∧ Ev (fun k => impl_blockOf.f k s) r := by
  have short : ∀ x : Bool, x = true → Ev (fun k => spec_l29Parse.j0 k s x) none4 ∧ Ev (fun k => impl_blockOf.j0 k s x) none4 := by
    rintro x rfl
    refine ⟨Ev.step (fun k => spec_l29Parse.j0.eq_2 _ _ k) ?_, Ev.step (fun k => impl_blockOf.j0.eq_2 _ _ k) ?_⟩ <;> (simp only [if_true]; exact Ev.now _)
  by_cases h6 : (s.size : Int) < 6
  · refine ⟨none4, good_none 9 (Or.inl rfl), ?_, ?_⟩
    · unfold spec_l29Parse.f
      simp only [if_pos h6]
      exact (short true rfl).1
    · unfold impl_blockOf.f
      simp only [if_pos h6]
      exact (short true rfl).2
  have h5 : (5 : Int) < (s.size : Int) := by omega
  cases hb : (bt s 5 != 32) with
  | true =>
    refine ⟨none4, good_none 9 (Or.inl rfl), ?_, ?_⟩
    · unfold spec_l29Parse.f
      simp only [if_neg h6, if_pos h5, hb]
      exact (short true rfl).1
    · unfold impl_blockOf.f
      simp only [if_neg h6, if_pos h5, hb]
      exact (short true rfl).2
  | false =>
    obtain ⟨R, hRe⟩ : ∃ R, R = s.extract 6 s.size := ⟨_, rfl⟩
    have hR : R.size ≤ 1048576 := by rw [hRe, ex_size _ _ _ (Nat.le_refl _)]; omega
    obtain ⟨v, c, hc, e1, e2, e3⟩ := check_ev R (by omega)
    have toSpec : ∀ r, Ev (fun k => if (s.extract 0 5).toList = c.toList then spec_l29Parse.l0 k R 0 else some ((⟨#[]⟩ : ByteArray), (⟨#[]⟩ : ByteArray), (⟨#[]⟩ : ByteArray), 10)) r → Ev (fun k => spec_l29Parse.f k s) r := by
      intro r K
      unfold spec_l29Parse.f
      simp only [if_neg h6, if_pos h5, hb]
      refine Ev.step (fun k => spec_l29Parse.j0.eq_2 _ _ k) ?_
      simp only [Bool.false_eq_true, if_false, if_pos (show (6 : Int) ≤ (s.size : Int) by omega), if_pos (show (0 : Int) ≤ 5 by omega), if_pos (show (5 : Int) ≤ (s.size : Int) by omega), ← hRe]
      exact Ev.bind e2 (Ev.bind e3 K)
    have toImpl : ∀ r, Ev (fun k => if (s.extract 0 5).toList = c.toList then ((strings_Cut.f R (⟨#[32]⟩ : ByteArray)).bind fun bt168 => ((strings_Cut.f bt168.2.1 (⟨#[32]⟩ : ByteArray)).bind fun bt171 => (if bt171.2.2 = true then ((impl_ValidBlock.f k bt168.1 bt171.1 bt171.2.1).bind fun t175 => (if t175 = true then (some (bt168.1, bt171.1, bt171.2.1, 0)) else (some none4))) else (some none4)))) else some ((⟨#[]⟩ : ByteArray), (⟨#[]⟩ : ByteArray), (⟨#[]⟩ : ByteArray), 10)) r → Ev (fun k => impl_blockOf.f k s) r := by
      intro r K
      unfold impl_blockOf.f
      simp only [if_neg h6, if_pos h5, hb]
      refine Ev.step (fun k => impl_blockOf.j0.eq_2 _ _ k) ?_
      simp only [Bool.false_eq_true, if_false, if_pos (show (6 : Int) ≤ (s.size : Int) by omega), if_pos (show (0 : Int) ≤ 5 by omega), if_pos (show (5 : Int) ≤ (s.size : Int) by omega), ← hRe]
      exact Ev.bind e1 K
    by_cases hcs : (s.extract 0 5).toList = c.toList
    rotate_left
    · refine ⟨_, good_none 10 (Or.inr rfl), toSpec _ ?_, toImpl _ ?_⟩ <;> (simp only [if_neg hcs]; exact Ev.now _)
    have hL := size_len' R
    obtain ⟨i, _, hi1, hi2, hi3⟩ := first_at R.data.toList 32 R.data.toList.length 0 (by omega)
    by_cases hi : i = R.size
    · refine ⟨none4, good_none 9 (Or.inl rfl), toSpec _ ?_, toImpl _ ?_⟩
      · simp only [if_pos hcs]
        refine EvP.eq ?_
        refine loop0 R hR i (by omega) i 0 (by omega) (fun j h1 h2 => hi2 j h1 h2) (fun h => by omega) ?_
        have hc1 : ((i : Int) + 1) = ((i + 1 : Nat) : Int) := by omega
        rw [hc1]
        refine loop1 R hR i (i + 1) (by omega) 0 (i + 1) (by omega) (fun j h1 h2 => by omega) (fun h => by omega) (fun _ => rfl) ?_
        refine EvP.step (fun k => spec_l29Parse.j4.eq_2 _ _ _ k) ?_
        simp only [if_pos (show ((i + 1 : Nat) : Int) ≥ (R.size : Int) by omega)]
        exact EvP.now rfl
      · simp only [if_pos hcs, cut_miss R 32 hR (fun j hj => hi2 j (by omega) (by omega)), Option.bind_some, cut_miss ByteArray.empty 32 (by decide) (fun j hj => by simp), Bool.false_eq_true, if_false]
        exact Ev.now _
    have hi4 := hi3 (by omega)
    obtain ⟨m, hm0, hm1, hm2, hm3⟩ := first_at R.data.toList 32 (R.data.toList.length - (i + 1)) (i + 1) (by omega)
    obtain ⟨T, hT⟩ : ∃ T, T = R.extract (i + 1) R.size := ⟨_, rfl⟩
    have hTs : T.size = R.size - (i + 1) := by rw [hT, ex_size _ _ _ (Nat.le_refl _)]
    have hTl : T.data.toList = R.data.toList.drop (i + 1) := by
      rw [hT, extract_list]
      exact List.take_of_length_le (by rw [List.length_drop]; omega)
    have hTg : ∀ j, T.data.toList[j]? = R.data.toList[i + 1 + j]? := by
      intro j
      rw [hTl, List.getElem?_drop]
    have hcut1 := cut_hit R 32 hR i hi4 (fun j hj => hi2 j (by omega) hj)
    rw [← hT] at hcut1
    have hc1 : ((i : Int) + 1) = ((i + 1 : Nat) : Int) := by omega
    by_cases hm : m = R.size
    · refine ⟨none4, good_none 9 (Or.inl rfl), toSpec _ ?_, toImpl _ ?_⟩
      · simp only [if_pos hcs]
        refine EvP.eq ?_
        refine loop0 R hR i (by omega) i 0 (by omega) (fun j h1 h2 => hi2 j h1 h2) (fun _ => hi4) ?_
        rw [hc1]
        refine loop1 R hR i m (by omega) (m - (i + 1)) (i + 1) (by omega) hm2 (fun h => by omega) (fun h => by omega) ?_
        refine EvP.step (fun k => spec_l29Parse.j4.eq_2 _ _ _ k) ?_
        simp only [if_pos (show (m : Int) ≥ (R.size : Int) by omega)]
        exact EvP.now rfl
      · simp only [if_pos hcs, hcut1, Option.bind_some, cut_miss T 32 (by omega) (fun j hj => by rw [hTg]; exact hm2 _ (by omega) (by omega)), Bool.false_eq_true, if_false]
        exact Ev.now _
    have hm4 := hm3 (by omega)
    have hcut2 := cut_hit T 32 (by omega) (m - (i + 1)) (by rw [hTg, show i + 1 + (m - (i + 1)) = m by omega]; exact hm4) (fun j hj => by rw [hTg]; exact hm2 _ (by omega) (by omega))
    have x1 : T.extract 0 (m - (i + 1)) = R.extract (i + 1) m := by
      apply data_inj
      rw [extract_list, extract_list, hTl]
      simp
    have x2 : T.extract (m - (i + 1) + 1) T.size = R.extract (m + 1) R.size := by
      apply data_inj
      rw [extract_list, extract_list, hTl, List.drop_drop, hTs]
      congr 1
      · omega
      · congr 1; omega
    rw [x1, x2] at hcut2
    have y0 := ex_size R 0 i (by omega)
    have y1 := ex_size R (i + 1) m (by omega)
    have y2 := ex_size R (m + 1) R.size (Nat.le_refl _)
    have b1 := oneBlock_ev (R.extract 0 i) (R.extract (i + 1) m) (R.extract (m + 1) R.size) (by omega) (by omega) (by omega)
    have b2 := validBlock_ev (R.extract 0 i) (R.extract (i + 1) m) (R.extract (m + 1) R.size) (by omega) (by omega) (by omega)
    refine ⟨if blockOk (R.extract 0 i) (R.extract (i + 1) m) (R.extract (m + 1) R.size) = true then (R.extract 0 i, R.extract (i + 1) m, R.extract (m + 1) R.size, 0) else none4, ?_, toSpec _ ?_, toImpl _ ?_⟩
    · split
      · rename_i hok
        exact ⟨by simp only; omega, by simp only; omega, by simp only; omega, fun _ => hok, by simp only; omega, by simp only; omega⟩
      · exact good_none 9 (Or.inl rfl)
    · simp only [if_pos hcs]
      refine EvP.eq ?_
      refine loop0 R hR i (by omega) i 0 (by omega) (fun j h1 h2 => hi2 j h1 h2) (fun _ => hi4) ?_
      rw [hc1]
      refine loop1 R hR i m (by omega) (m - (i + 1)) (i + 1) (by omega) hm2 (fun _ => hm4) (fun h => by omega) ?_
      refine EvP.step (fun k => spec_l29Parse.j4.eq_2 _ _ _ k) ?_
      simp only [if_neg (show ¬ (m : Int) ≥ (R.size : Int) by omega), w64 (show -9223372036854775808 ≤ (i : Int) + 1 by omega) (by omega), w64 (show -9223372036854775808 ≤ (m : Int) + 1 by omega) (by omega), if_pos (show (0 : Int) ≤ (i : Int) by omega), if_pos (show (i : Int) ≤ (R.size : Int) by omega), if_pos (show (0 : Int) ≤ (i : Int) + 1 by omega), if_pos (show (i : Int) + 1 ≤ (m : Int) by omega), if_pos (show (m : Int) ≤ (R.size : Int) by omega), if_pos (show (0 : Int) ≤ (m : Int) + 1 by omega), if_pos (show (m : Int) + 1 ≤ (R.size : Int) by omega), Int.toNat_natCast, show ((i : Int) + 1).toNat = i + 1 by omega, show ((m : Int) + 1).toNat = m + 1 by omega]
      refine EvP.bind b1 ?_
      split <;> exact EvP.now rfl
    · simp only [if_pos hcs, hcut1, hcut2, Option.bind_some, if_true]
      refine Ev.bind b2 ?_
      split <;> exact Ev.now _
end Go.Proofs.YtkllogmpaaeokaaGreatDoor.PParse
end

section
namespace Go.Proofs.YtkllogmpaaeokaaGreatDoor.PLinesS
open Go.RowKit Go.Proofs.YtkllogmpaaeokaaGreatDoorW.PrintWords Go.Proofs.YtkllogmpaaeokaaGreatDoor.XT Go.Proofs.YtkllogmpaaeokaaGreatDoor.EvK Go.Proofs.YtkllogmpaaeokaaGreatDoor.PSplit
set_option linter.unusedVariables false
set_option linter.unusedSimpArgs false
theorem sp_pos (c : UInt8) (acc l : List UInt8) : 0 < (sp c acc l).length := by
  obtain ⟨i, z, h1, _⟩ := sp_join c l acc
  rw [h1]
  simp
theorem sp_len (c : UInt8) : ∀ (l acc : List UInt8), (sp c acc l).length ≤ l.length + 1
  | [], acc => by simp [sp]
  | b :: l, acc => by
    rw [sp]
    split
    · have := sp_len c l []; simp only [List.length_cons]; omega
    · have := sp_len c l (acc ++ [b]); simp only [List.length_cons]; omega
theorem sp_part (c : UInt8) : ∀ (l acc : List UInt8), ∀ x ∈ sp c acc l, x.length ≤ acc.length + l.length
  | [], acc, x, h => by
    rw [sp, List.mem_singleton] at h
    rw [h]; simp
  | b :: l, acc, x, h => by
    rw [sp] at h
    split at h
    · rcases List.mem_cons.1 h with h | h
      · rw [h]; simp
      · have := sp_part c l [] x h
        simp only [List.length_nil, List.length_cons] at this ⊢
        omega
    · have := sp_part c l (acc ++ [b]) x h
      simp only [List.length_append, List.length_cons, List.length_nil] at this ⊢
      omega
theorem pieces_ev (s : ByteArray) (c : UInt8) (hs : s.size ≤ 1048576) : ∃ x : List ByteArray, 0 < x.length ∧ x.length ≤ 1048577 ∧ (∀ y ∈ x, y.size ≤ 1048576) ∧ x.map (·.data.toList) = sp c [] s.data.toList ∧ strings_Split.f s ⟨#[c]⟩ = some x ∧ Ev (fun k => spec_l01Split.f k s (c.toNat : Int)) x := by
  obtain ⟨r, h1, h2⟩ := split_ev s c hs
  have hsp := splitB_sp c (Lib.countB s ⟨#[c]⟩) s rfl
  have e : Lib.splitB ⟨#[c]⟩ 0 (Lib.countB s ⟨#[c]⟩) s = r := lists_eq (hsp.trans h2.symm)
  have hl : r.length = (sp c [] s.data.toList).length := by rw [← h2, List.length_map]
  have h3 := sp_pos c [] s.data.toList
  have h4 := sp_len c s.data.toList []
  have h5 := size_len' s
  refine ⟨r, by omega, by omega, fun y hy => ?_, h2, ?_, h1⟩
  · have hm : y.data.toList ∈ sp c [] s.data.toList := by rw [← h2]; exact List.mem_map.2 ⟨y, hy, rfl⟩
    have := sp_part c _ _ _ hm
    rw [size_len']
    simp only [List.length_nil] at this
    omega
  · unfold strings_Split.f
    rw [if_pos ⟨by omega, Nat.le_refl 1⟩, e]
theorem lines_ev (s : ByteArray) (hs : s.size ≤ 1048576) : ∃ x : List ByteArray, 0 < x.length ∧ x.length ≤ 1048577 ∧ (∀ y ∈ x, y.size ≤ 1048576) ∧ x.map (·.data.toList) = sp 10 [] s.data.toList ∧ strings_Split.f s ⟨#[10]⟩ = some x ∧ Ev (fun k => spec_l29Lines.f k s) (x.take (x.length - 1), (rdOf (⟨#[]⟩ : ByteArray) x ((x.length : Int) - 1)).toList.isEmpty) := by
  obtain ⟨x, h0, h1, h2, h3, h4, h5⟩ := pieces_ev s 10 hs
  refine ⟨x, h0, h1, h2, h3, h4, ?_⟩
  unfold spec_l29Lines.f
  refine Ev.bind h5 ?_
  simp only [if_pos (show 1 ≤ x.length by omega)]
  exact Ev.now _
end Go.Proofs.YtkllogmpaaeokaaGreatDoor.PLinesS
end

section
namespace Go.Proofs.YtkllogmpaaeokaaGreatDoor.PBlockL
open Go.RowKit Go.Proofs.YtkllogmpaaeokaaGreatDoorW.PrintWords Go.Proofs.YtkllogmpaaeokaaGreatDoor.XT Go.Proofs.YtkllogmpaaeokaaGreatDoor.EvK Go.Proofs.YtkllogmpaaeokaaGreatDoor.PBasics Go.Proofs.YtkllogmpaaeokaaGreatDoor.PBlocks
set_option linter.unusedVariables false
set_option linter.unusedSimpArgs false
def lessS (a b : ByteArray) : Bool := Op.bytesLess a.data.toList b.data.toList
def before (a b : S43) : Bool := lessS a.f0 b.f0 || (decide (a.f0.data.toList = b.f0.data.toList) && lessS a.f1 b.f1)
def cmpS (a b : ByteArray) : Int := if lessS a b = true then -1 else if lessS b a = true then 1 else 0
def cmpB (a b : S43) : Int := if cmpS a.f0 b.f0 = 0 then cmpS a.f1 b.f1 else cmpS a.f0 b.f0
theorem less_ge' (a b : ByteArray) : (lessS a b || decide (a.data.toList = b.data.toList)) = !(lessS b a) := by
  have h := less_ge a.data.toList b.data.toList
  unfold lessS
  rw [← h]
  congr 1
  rw [Bool.eq_iff_iff]
  simp
theorem cmpB_ge (a b : S43) : 0 ≤ cmpB a b ↔ before a b = false := by
  have h := less_ge' a.f0 b.f0
  unfold cmpB before cmpS
  cases h1 : lessS a.f0 b.f0 <;> cases h2 : lessS b.f0 a.f0 <;> cases h3 : lessS a.f1 b.f1 <;> cases h4 : lessS b.f1 a.f1 <;> simp_all
theorem compare_eq (a b : ByteArray) : cmp_Compare_string.f a b = some (cmpS a b) := by
  unfold cmp_Compare_string.f cmp_isNaN_string.f cmpS lessS
  simp only [bne_self_eq_false, Option.bind_some, Bool.false_eq_true, if_false, toList_eq]
  by_cases h1 : Op.bytesLess a.data.toList b.data.toList = true
  · simp only [if_pos h1]
  · simp only [if_neg h1]
    by_cases h2 : Op.bytesLess b.data.toList a.data.toList = true
    · simp only [if_pos h2]
    · simp only [if_neg h2]
theorem or_ev (a b : Int) : Ev (fun k => cmp_Or_int.f k [a, b]) (if a = 0 then b else a) := by
  unfold cmp_Or_int.f
  have w1 : wrap64 (0 + 1) = 1 := by rw [w64 (by omega) (by omega)]; rfl
  have w2 : wrap64 (1 + 1) = 2 := by rw [w64 (by omega) (by omega)]; rfl
  have r0 : rd [a, b] 0 = a := rfl
  have r1 : rd [a, b] 1 = b := rfl
  have hl : (([a, b] : List Int).length : Int) = 2 := rfl
  refine Ev.step (fun k => cmp_Or_int.l0.eq_2 _ _ _ _ k) ?_
  simp only [hl, w1, r0, if_pos (show (0 : Int) < 2 by omega), if_pos (show (0 : Int) ≤ 0 by omega)]
  by_cases ha : a = 0
  · simp only [if_pos ha]
    refine Ev.step (fun k => cmp_Or_int.l0.eq_2 _ _ _ _ k) ?_
    simp only [hl, w2, r1, if_pos (show (1 : Int) < 2 by omega), if_pos (show (0 : Int) ≤ 1 by omega)]
    by_cases hb : b = 0
    · simp only [if_pos hb]
      refine Ev.step (fun k => cmp_Or_int.l0.eq_2 _ _ _ _ k) ?_
      simp only [hl, if_neg (show ¬ (2 : Int) < 2 by omega), hb]
      exact Ev.now _
    · simp only [if_neg hb]; exact Ev.now _
  · simp only [if_neg ha]; exact Ev.now _
theorem compareB_ev (a b : S43) : Ev (fun k => impl_compareBlocks.f k a.f0 a.f1 a.f2 b.f0 b.f1 b.f2) (cmpB a b) := by
  unfold impl_compareBlocks.f
  simp only [compare_eq, Option.bind_some]
  exact Ev.bind (or_ev _ _) (Ev.now _)
theorem before_eq (a b : S43) : spec_l29Before.f a.f0 a.f1 a.f2 b.f0 b.f1 b.f2 = some (before a b) := by
  unfold spec_l29Before.f before
  simp only [toList_eq]
  show (if lessS a.f0 b.f0 = true then some true else if a.f0.data.toList = b.f0.data.toList then some (lessS a.f1 b.f1) else some false) = _
  cases lessS a.f0 b.f0
  · by_cases h : a.f0.data.toList = b.f0.data.toList <;> simp [h]
  · simp
theorem rd_nat (l : List S43) (i : Nat) : rd_T43 l (i : Int) = l.getD i z43 := rfl
end Go.Proofs.YtkllogmpaaeokaaGreatDoor.PBlockL
end

section
namespace Go.Proofs.YtkllogmpaaeokaaGreatDoor.PNum
open Go.RowKit Go.Proofs.YtkllogmpaaeokaaGreatDoorW.PrintWords Go.Proofs.YtkllogmpaaeokaaGreatDoor.EvK
set_option linter.unusedVariables false
set_option linter.unusedSimpArgs false
def dig (c : UInt8) : Bool := decide (48 ≤ c.toNat) && decide (c.toNat ≤ 57)
theorem dig_iff (c : UInt8) : dig c = true ↔ 48 ≤ c.toNat ∧ c.toNat ≤ 57 := by unfold dig; simp
def vall (a : Nat) (l : List UInt8) : Nat := l.foldl (fun a c => a * 10 + (c.toNat - 48)) a
theorem vall_nil (a : Nat) : vall a [] = a := rfl
theorem vall_cons (a : Nat) (c : UInt8) (r : List UInt8) : vall a (c :: r) = vall (a * 10 + (c.toNat - 48)) r := by unfold vall; rw [List.foldl_cons]
theorem vall_lt (l : List UInt8) : ∀ a, l.all dig = true → vall a l < (a + 1) * 10 ^ l.length := by
  induction l with
  | nil =>
    intro a _
    rw [vall_nil, List.length_nil, Nat.pow_zero]
    omega
  | cons c r ih =>
    intro a h
    rw [List.all_cons, Bool.and_eq_true, dig_iff] at h
    have h1 := ih (a * 10 + (c.toNat - 48)) h.2
    rw [vall_cons, List.length_cons, Nat.pow_succ]
    have h2 : (a * 10 + (c.toNat - 48) + 1) * 10 ^ r.length ≤ (a + 1) * 10 * 10 ^ r.length := Nat.mul_le_mul_right _ (by omega)
    have h3 : (a + 1) * 10 * 10 ^ r.length = (a + 1) * (10 ^ r.length * 10) := by rw [Nat.mul_assoc, Nat.mul_comm 10]
    omega
theorem parse_vall (l : List UInt8) : ∀ a, l.all dig = true → (a + 1) * 10 ^ l.length ≤ 1000000000000000000 → Lib.parseUintM (2 ^ 64 - 1) a l = .ok (vall a l) := by
  induction l with
  | nil => intro a _ _; rfl
  | cons c r ih =>
    intro a h hb
    rw [List.all_cons, Bool.and_eq_true, dig_iff] at h
    rw [List.length_cons, Nat.pow_succ] at hb
    have hp : 0 < 10 ^ r.length := Nat.pow_pos (by omega)
    have h1 : (a + 1) * 10 ≤ (a + 1) * (10 ^ r.length * 10) := Nat.mul_le_mul_left _ (by omega)
    have h2 : (a * 10 + (c.toNat - 48) + 1) * 10 ^ r.length ≤ (a + 1) * 10 * 10 ^ r.length := Nat.mul_le_mul_right _ (by omega)
    have h3 : (a + 1) * 10 * 10 ^ r.length = (a + 1) * (10 ^ r.length * 10) := by rw [Nat.mul_assoc, Nat.mul_comm 10]
    rw [Lib.parseUintM, if_pos h.1, if_neg (by omega), if_neg (by omega), vall_cons]
    exact ih _ h.2 (by omega)
theorem dec_step (a d : Nat) (ha : 0 < a) (hd : d < 10) : Lib.decDigits (a * 10 + d) = Lib.decDigits a ++ [UInt8.ofNat (48 + d)] := by
  rw [Lib.decDigits, dif_neg (by omega), show (a * 10 + d) / 10 = a by omega, show (a * 10 + d) % 10 = d by omega]
theorem of_dig {c : UInt8} (h : 48 ≤ c.toNat ∧ c.toNat ≤ 57) : UInt8.ofNat (48 + (c.toNat - 48)) = c := by
  apply UInt8.toNat_inj.1
  rw [show 48 + (c.toNat - 48) = c.toNat by omega]
  simp
theorem dec_vall (l : List UInt8) : ∀ a, 0 < a → l.all dig = true → Lib.decDigits (vall a l) = Lib.decDigits a ++ l := by
  induction l with
  | nil => intro a _ _; simp [vall_nil]
  | cons c r ih =>
    intro a ha h
    rw [List.all_cons, Bool.and_eq_true, dig_iff] at h
    rw [vall_cons, ih _ (by omega) h.2, dec_step a _ ha (by omega), of_dig h.1]
    simp
def plainOk (l : List UInt8) : Bool := l.all dig && (decide (l.length ≤ 18) && match l with
  | [] => false
  | c :: r => !(decide (c = 48)) || r.isEmpty)
theorem plain_dec (l : List UInt8) (h : plainOk l = true) : Lib.decDigits (vall 0 l) = l ∧ vall 0 l < 10 ^ 18 ∧ Lib.parseUintB 64 l = .ok (vall 0 l) := by
  unfold plainOk at h
  rw [Bool.and_eq_true, Bool.and_eq_true, decide_eq_true_eq] at h
  obtain ⟨h1, h2, h3⟩ := h
  have hlt := vall_lt l 0 h1
  have hp : 10 ^ l.length ≤ 10 ^ 18 := Nat.pow_le_pow_right (by omega) h2
  have hp18 : (10 : Nat) ^ 18 = 1000000000000000000 := by decide
  cases l with
  | nil => cases h3
  | cons c r =>
    refine ⟨?_, by omega, ?_⟩
    · have h1' := h1
      rw [List.all_cons, Bool.and_eq_true, dig_iff] at h1
      by_cases hc : c = 48
      · subst hc
        simp only [decide_true, Bool.not_true, Bool.false_or] at h3
        rw [List.isEmpty_iff.1 h3]
        rw [show vall 0 [48] = 0 from rfl, Lib.decDigits_one (by omega)]
        rfl
      · have hn : ¬ c.toNat = 48 := fun e => hc (UInt8.toNat_inj.1 e)
        rw [vall_cons, dec_vall r _ (by omega) h1.2, Nat.zero_mul, Nat.zero_add, Lib.decDigits_one (by omega), of_dig h1.1]
        rfl
    · unfold Lib.parseUintB
      rw [if_neg (by simp)]
      exact parse_vall _ 0 h1 (by omega)
theorem dec_all : ∀ (f u : Nat), u < 10 ^ f → 0 < f → (Lib.decDigits u).all dig = true ∧ ∃ c r, Lib.decDigits u = c :: r ∧ (c = 48 → u = 0 ∧ r = []) := by
  intro f
  induction f with
  | zero => intro u _ h; omega
  | succ f ih =>
    intro u h _
    have ho : ∀ d, d < 10 → dig (UInt8.ofNat (48 + d)) = true ∧ (UInt8.ofNat (48 + d) = 48 → d = 0) := by decide
    by_cases h10 : u < 10
    · rw [Lib.decDigits_one h10]
      refine ⟨by rw [List.all_cons, (ho u h10).1]; rfl, _, _, rfl, fun e => ⟨(ho u h10).2 e, rfl⟩⟩
    · rw [Nat.pow_succ] at h
      have hf0 : 0 < f := by
        apply Nat.pos_of_ne_zero
        rintro rfl
        omega
      obtain ⟨i1, c, r, i2, i3⟩ := ih (u / 10) (by omega) hf0
      rw [Lib.decDigits, dif_neg h10]
      refine ⟨by rw [List.all_append, i1, List.all_cons, (ho (u % 10) (by omega)).1]; rfl, c, r ++ [_], by rw [i2]; rfl, fun e => ?_⟩
      have := (i3 e).1
      omega
def canon (l : List UInt8) : Option Int := match l with
  | [] => none
  | c :: r => if c = 45 then (if plainOk r && !(r.head? == some 48) then some (-(vall 0 r : Int)) else none) else if plainOk (c :: r) then some (vall 0 (c :: r) : Int) else none
theorem canon_parse (l : List UInt8) (v : Int) (h : canon l = some v) : Lib.parseIntB 64 l = .ok v ∧ Lib.itoa v = l ∧ -1000000000000000000 < v ∧ v < 1000000000000000000 := by
  unfold canon at h
  cases l with
  | nil => cases h
  | cons c r =>
    simp only at h
    have hb : (2 : Nat) ^ (64 - 1) = 9223372036854775808 := by decide
    by_cases hc : c = 45
    · subst hc
      rw [if_pos rfl] at h
      split at h
      · rename_i hp
        rw [Bool.and_eq_true] at hp
        obtain rfl := Option.some.inj h
        obtain ⟨e1, e2, e3⟩ := plain_dec r hp.1
        have hpos : 1 ≤ vall 0 r := by
          apply Nat.pos_of_ne_zero
          intro h0
          rw [h0, Lib.decDigits_one (by omega)] at e1
          rw [← e1] at hp
          exact absurd hp.2 (by decide)
        refine ⟨?_, by rw [Lib.itoa_neg _ hpos, e1], by omega, by omega⟩
        rw [Lib.parseIntB_minus, e3, hb]
        show (if 9223372036854775808 < vall 0 r then Lib.NumEnd.range else Lib.NumEnd.ok (-(vall 0 r : Int))) = _
        rw [if_neg (by omega)]
      · cases h
    · rw [if_neg hc] at h
      split at h
      · rename_i hp
        obtain rfl := Option.some.inj h
        obtain ⟨e1, e2, e3⟩ := plain_dec (c :: r) hp
        have hd : 48 ≤ c.toNat ∧ c.toNat ≤ 57 := by
          unfold plainOk at hp
          rw [Bool.and_eq_true, List.all_cons, Bool.and_eq_true, dig_iff] at hp
          exact hp.1.1
        refine ⟨?_, by rw [Lib.itoa_nonneg, e1], by omega, by omega⟩
        rw [Lib.parseIntB_plain 64 c r (by omega) (by omega), e3, hb]
        show (if 9223372036854775808 ≤ vall 0 (c :: r) then Lib.NumEnd.range else Lib.NumEnd.ok (vall 0 (c :: r) : Int)) = _
        rw [if_neg (by omega)]
      · cases h
def less1 (l : List UInt8) : List UInt8 := if l.head? = some 45 then l.tail else l
theorem parse_canon (l : List UInt8) (v : Int) (hv0 : -9223372036854775808 ≤ v) (hv1 : v ≤ 9223372036854775807) (h : Lib.itoa v = l) (hl : (less1 l).length ≤ 18) : canon l = some v := by
  obtain ⟨u, hu⟩ : ∃ u : Nat, v = u ∨ v = -(u : Int) ∧ 1 ≤ u := by
    rcases Int.lt_or_le v 0 with h0 | h0
    · exact ⟨v.natAbs, Or.inr ⟨by omega, by omega⟩⟩
    · exact ⟨v.natAbs, Or.inl (by omega)⟩
  have hu2 : u < 10 ^ 19 := by rcases hu with h | h <;> omega
  obtain ⟨g1, c, r, g2, g3⟩ := dec_all 19 u hu2 (by omega)
  have hd : 48 ≤ c.toNat ∧ c.toNat ≤ 57 := by
    rw [g2, List.all_cons, Bool.and_eq_true, dig_iff] at g1
    exact g1.1
  have hplain : ∀ hl : (c :: r).length ≤ 18, plainOk (c :: r) = true ∧ vall 0 (c :: r) = u := by
    intro hl
    have hp : plainOk (c :: r) = true := by
      unfold plainOk
      rw [← g2, g1, g2, decide_eq_true hl, Bool.true_and, Bool.true_and]
      by_cases hc : c = 48
      · rw [(g3 hc).2]; simp
      · simp [hc]
    refine ⟨hp, ?_⟩
    obtain ⟨e1, e2, e3⟩ := plain_dec (c :: r) hp
    have inj : ∀ (f a b : Nat), a < 10 ^ f → b < 10 ^ f → 0 < f → Lib.decDigits a = Lib.decDigits b → a = b := by
      intro f
      induction f with
      | zero => intro a b _ _ h; omega
      | succ f ih =>
        intro a b ha hb _ he
        have ho : ∀ d, d < 10 → ∀ e, e < 10 → UInt8.ofNat (48 + d) = UInt8.ofNat (48 + e) → d = e := by decide
        have hla := Lib.decDigits_length a
        have hlb := Lib.decDigits_length b
        rw [Nat.pow_succ] at ha hb
        by_cases a10 : a < 10
        · by_cases b10 : b < 10
          · rw [Lib.decDigits_one a10, Lib.decDigits_one b10] at he
            exact ho a a10 b b10 (by injection he)
          · rw [Lib.decDigits_one a10, Lib.decDigits, dif_neg b10] at he
            have hh := congrArg List.length he
            obtain ⟨_, x, y, hxy, _⟩ := dec_all (f + 1) (b / 10) (by rw [Nat.pow_succ]; omega) (by omega)
            rw [hxy] at hh
            simp at hh
        · by_cases b10 : b < 10
          · rw [Lib.decDigits_one b10, Lib.decDigits, dif_neg a10] at he
            have hh := congrArg List.length he
            obtain ⟨_, x, y, hxy, _⟩ := dec_all (f + 1) (a / 10) (by rw [Nat.pow_succ]; omega) (by omega)
            rw [hxy] at hh
            simp at hh
          · rw [Lib.decDigits, dif_neg a10] at he
            rw [show Lib.decDigits b = Lib.decDigits (b / 10) ++ [UInt8.ofNat (48 + b % 10)] by rw [Lib.decDigits, dif_neg b10]] at he
            obtain ⟨he1, he2⟩ := List.append_inj' he rfl
            have hq := ho (a % 10) (by omega) (b % 10) (by omega) (by injection he2)
            have hf0 : 0 < f := by
              apply Nat.pos_of_ne_zero
              rintro rfl
              omega
            have := ih (a / 10) (b / 10) (by omega) (by omega) hf0 he1
            omega
    exact inj 19 _ _ (by omega) hu2 (by omega) (e1.trans g2.symm)
  rcases hu with rfl | ⟨rfl, hu1⟩
  · rw [Lib.itoa_nonneg, g2] at h
    subst h
    have h45 : ¬ c = 45 := fun e => by rw [e] at hd; exact absurd hd (by decide)
    have hl2 : (c :: r).length ≤ 18 := by
      unfold less1 at hl
      rw [if_neg (by simpa using h45)] at hl
      exact hl
    obtain ⟨p1, p2⟩ := hplain hl2
    unfold canon
    simp only [if_neg h45, p1, if_true, p2]
  · rw [Lib.itoa_neg _ hu1, g2] at h
    subst h
    have hl2 : (c :: r).length ≤ 18 := by
      unfold less1 at hl
      rw [if_pos (by simp)] at hl
      exact hl
    obtain ⟨p1, p2⟩ := hplain hl2
    have h48 : ¬ c = 48 := fun e => by have := (g3 e).1; omega
    unfold canon
    simp [p1, p2, h48]
end Go.Proofs.YtkllogmpaaeokaaGreatDoor.PNum
end
