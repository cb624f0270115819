/- The law FnPages: part 4 of its texts, joined (wip/pack.py). -/
import Derived.Test.YtpkcjkfkohmcfaaKFnPagesa
import Derived.Test.YtpkcjkfkohmcfaaKFnPagesb
import Derived.Test.YtpkcjkfkohmcfaaKFnPagesc
import Derived.Test.YtpkcjkfkohmcfaaKFnPagesd
import Derived.Deep.Slices
import Derived.SizedLaws
import Derived.ChangeArms
import Derived.WideShapes

section
namespace Go.Proofs.Ytpkcjkfkohmcfaa.XN
open Go.RowKit Go.Proofs.YtpkcjkfkohmcfaaW.PrintWords Go.Proofs.YtpkcjkfkohmcfaaW.PrintLast Go.Proofs.YtpkcjkfkohmcfaaW.PrintMore
attribute [local go_sem] run_eql_slice_nil binOp_string_gtr' binOp_string_leq' binOp_string_geq' max2_int min2_int max_two min_two max_three min_three max_four min_four   -- for this text's walks alone
set_option linter.unusedVariables false
set_option linter.unusedSimpArgs false
mutual
def laws_FnPages.j0 : Nat → List Int → List Int → Bool → Option (Bool)
 | 0, _, _, _ => none
 | k + 1, x0, x1, x29 => if x29 = true then (some true) else ((spec_DrawPagesOf.f k x0).bind fun bt356 => ((impl_PagesOf.f k bt356.1 bt356.2.1 bt356.2.2).bind fun bt361 => (if bt361.2 = 0 then (laws_FnPages.l0 k x0 x1 bt356.1 bt356.2.1 bt356.2.2 bt361.1 0 0) else (laws_FnPages.j4 k x0 x1))))
def laws_FnPages.j4 : Nat → List Int → List Int → Option (Bool)
 | 0, _, _ => none
 | k + 1, x0, x1 => (spec_DrawFindLines.f k x1).bind fun bt374 => ((impl_FindLines.f k bt374.1 bt374.2).bind fun bt378 => (if bt378.2 = 0 then ((laws_b10Rises.f k bt378.1 (bt374.1.length : Int)).bind fun t382 => (if t382 = true then (laws_FnPages.l2 k x0 bt374.1 bt374.2 bt378.1 0) else (some false))) else (laws_FnPages.j6 k x0)))
def laws_FnPages.j6 : Nat → List Int → Option (Bool)
 | 0, _ => none
 | k + 1, x0 => (spec_DrawBarLines.f k x0).bind fun bt385 => ((impl_BarLines.f k bt385.1 bt385.2).bind fun bt389 => (if bt389.2 = 0 then (if (bt389.1.length : Int) = (bt385.1.length : Int) then (laws_FnPages.l3 k bt385.1 bt385.2 bt389.1 0) else (some false)) else (some ((bt389.1.length : Int) == 0))))
def laws_FnPages.l3 : Nat → List Int → Int → List ByteArray → Int → Option (Bool)
 | 0, _, _, _, _ => none
 | k + 1, x18, x19, x20, x22 => if x22 < (x18.length : Int) then (laws_FnPages.l4 k x18 x19 x20 x22 0) else (some true)
def laws_FnPages.l4 : Nat → List Int → Int → List ByteArray → Int → Int → Option (Bool)
 | 0, _, _, _, _, _ => none
 | k + 1, x18, x19, x20, x22, x23 => if x23 < (x18.length : Int) then (if 0 ≤ x22 then (if x22 < (x18.length : Int) then (if 0 ≤ x23 then (if (rd x18 x22) ≤ (rd x18 x23) then (if x22 < (x20.length : Int) then (if x23 < (x20.length : Int) then (if ((rdOf ByteArray.empty x20 x22).size : Int) > ((rdOf ByteArray.empty x20 x23).size : Int) then (some false) else (laws_FnPages.l4 k x18 x19 x20 x22 (wrap64 (x23 + 1)))) else (none)) else (none)) else (laws_FnPages.l4 k x18 x19 x20 x22 (wrap64 (x23 + 1)))) else (none)) else (none)) else (none)) else (if 0 ≤ x22 then (if x22 < (x20.length : Int) then (if ((rdOf ByteArray.empty x20 x22).size : Int) > x19 then (some false) else (laws_FnPages.l3 k x18 x19 x20 (wrap64 (x22 + 1)))) else (none)) else (none))
def laws_FnPages.l2 : Nat → List Int → List ByteArray → ByteArray → List Int → Int → Option (Bool)
 | 0, _, _, _, _, _ => none
 | k + 1, x0, x13, x14, x15, x17 => if x17 < (x13.length : Int) then (if 0 ≤ x17 then (if (rdOf ByteArray.empty x13 x17).toList = x14.toList then ((laws_b10Has.f k x15 x17).bind fun t384 => (if t384 = true then (laws_FnPages.l2 k x0 x13 x14 x15 (wrap64 (x17 + 1))) else (some false))) else (laws_FnPages.l2 k x0 x13 x14 x15 (wrap64 (x17 + 1)))) else (none)) else (laws_FnPages.j6 k x0)
def laws_FnPages.l0 : Nat → List Int → List Int → List ByteArray → Int → ByteArray → List (List ByteArray) → Int → Int → Option (Bool)
 | 0, _, _, _, _, _, _, _, _ => none
 | k + 1, x0, x1, x5, x6, x7, x8, x10, x11 => if x11 < (x8.length : Int) then (if 0 ≤ x11 then (if ((rd_L1 x8 x11).length : Int) < 2 then (laws_FnPages.j2 k x0 x1 x5 x6 x7 x8 x10 x11 true) else (if ((rd_L1 x8 x11).length : Int) > x6 then (laws_FnPages.j2 k x0 x1 x5 x6 x7 x8 x10 x11 true) else (if 0 < ((rd_L1 x8 x11).length : Int) then (if (rdOf ByteArray.empty (rd_L1 x8 x11) 0).toList = x7.toList then (if (wrap64 (x11 + 1)) < (x8.length : Int) then (laws_FnPages.j2 k x0 x1 x5 x6 x7 x8 x10 x11 (((rd_L1 x8 x11).length : Int) != x6)) else (laws_FnPages.j2 k x0 x1 x5 x6 x7 x8 x10 x11 false)) else (laws_FnPages.j2 k x0 x1 x5 x6 x7 x8 x10 x11 true)) else (none)))) else (none)) else (if x10 = (x5.length : Int) then (laws_FnPages.j4 k x0 x1) else (some false))
def laws_FnPages.j2 : Nat → List Int → List Int → List ByteArray → Int → ByteArray → List (List ByteArray) → Int → Int → Bool → Option (Bool)
 | 0, _, _, _, _, _, _, _, _, _ => none
 | k + 1, x0, x1, x5, x6, x7, x8, x10, x11, x91 => if x91 = true then (some false) else (laws_FnPages.l1 k x0 x1 x5 x6 x7 x8 x10 x11 1)
def laws_FnPages.l1 : Nat → List Int → List Int → List ByteArray → Int → ByteArray → List (List ByteArray) → Int → Int → Int → Option (Bool)
 | 0, _, _, _, _, _, _, _, _, _ => none
 | k + 1, x0, x1, x5, x6, x7, x8, x10, x11, x12 => if 0 ≤ x11 then (if x11 < (x8.length : Int) then (if x12 < ((rd_L1 x8 x11).length : Int) then (if x10 ≥ (x5.length : Int) then (some false) else (if 0 ≤ x12 then (if 0 ≤ x10 then (if x10 < (x5.length : Int) then (if (rdOf ByteArray.empty (rd_L1 x8 x11) x12).toList = (rdOf ByteArray.empty x5 x10).toList then (laws_FnPages.l1 k x0 x1 x5 x6 x7 x8 (wrap64 (x10 + 1)) x11 (wrap64 (x12 + 1))) else (some false)) else (none)) else (none)) else (none))) else (laws_FnPages.l0 k x0 x1 x5 x6 x7 x8 x10 (wrap64 (x11 + 1)))) else (none)) else (none)
end
def laws_FnPages.f (k : Nat) (l0 : List Int) (l1 : List Int) : Option (Bool) := (laws_b10Long.f l0).bind fun t354 => (if t354 = true then (laws_FnPages.j0 k l0 l1 true) else ((laws_b10Long.f l1).bind fun t355 => (laws_FnPages.j0 k l0 l1 t355)))
set_option maxHeartbeats 8000000 in
set_option maxRecDepth 100000 in
theorem laws_FnPages.calls (k : Nat) (A0 : Option Addr) (c0 : Nat) (l0 : List Int) (A1 : Option Addr) (c1 : Nat) (l1 : List Int) (r : Bool) (w : World) (hr0 : Kd.C (Kd.int .u8) w A0 l0.length l0) (hc0 : l0.length ≤ c0) (hr1 : Kd.C (Kd.int .u8) w A1 l1.length l1) (hc1 : l1.length ≤ c1) (hSH : ShT Try.prog w) (h : laws_FnPages.f k l0 l1 = some r) :
  Calls Try.prog 4 #[.slice A0 l0.length c0, .slice A1 l1.length c1] w fun e w' => e = .returned (.bool r) ∧ Below w.heap.size w w' := by
 have HR0 := Aside0.mk hr0
 have HC0 := Aside0.mk hc0
 clear hr0 hc0
 have HR1 := Aside0.mk hr1
 have HC1 := Aside0.mk hc1
 clear hr1 hc1
 have HB := Aside0.mk (Below.refl w.heap.size w)
 have HSH := Aside0.mk hSH
 clear hSH
 have H : ((laws_b10Long.f l0).bind fun t354 => (if t354 = true then (laws_FnPages.j0 k l0 l1 true) else ((laws_b10Long.f l1).bind fun t355 => (laws_FnPages.j0 k l0 l1 t355)))) = some r := h
 clear h
 have HC3 := Aside0.mk H
 clear H
 go_enter Try.func4, Try.ntmps4
 go_upto_region 1 with (fail)
 repeat (go_quiet (fail); go_upto_region 1 with (fail))
 go_cut [29] (fun v29 wc => ∃ (kq : Nat) (x29_2 : Bool), v29 = .bool x29_2 ∧ Aside0 (laws_FnPages.j0 kq l0 l1 x29_2 = some r) ∧ Aside0 (kq ≤ k) ∧ Aside0 (Below w.heap.size w wc))
 case first =>
  as_aux_lemma =>
  have H := HC3.out
  clear HC3
  replace H := Option.bind_eq_some_iff.mp H
  obtain ⟨t354, A40, H⟩ := H
  replace H : (if t354 = true then (laws_FnPages.j0 k l0 l1 true) else ((laws_b10Long.f l1).bind fun t355 => (laws_FnPages.j0 k l0 l1 t355))) = some r := H
  have A4 := Aside0.mk A40
  clear A40
  by_cases c5 : t354 = true
  ·subst c5
   have H1 : (laws_FnPages.j0 k l0 l1 true) = some r := by rw [if_pos rfl] at H; exact H
   clear H
   have H := H1
   clear H1
   have H' := Aside0.mk H
   clear H
   go_wp2_with (first | (go_at_call 14; (with_reducible refine (laws_b10Long.calls _ _ l0 true _ ?side1 ?side2 A4.out).mono ?_); (case side1 => repeat (first | exact (Kd.C_below HR0.out HB.out) | (with_reducible refine Kd.C_alloc ?_ _) | (with_reducible refine Kd.C_drewN ?_ _) | (with_reducible refine Kd.C_drew ?_))); (case side2 => exact HC0.out); rintro e w' ⟨rfl, ⟨nd, rfl⟩⟩; (try first | exact ⟨rfl, _, World.drewN_drewN _ _ _⟩ | exact ⟨rfl, _, Eq.trans (World.drewN_drewN _ _ _) (congrArg (World.drewN _) (Nat.add_assoc _ _ _))⟩)))
   repeat (go_quiet (first | (go_at_call 14; (with_reducible refine (laws_b10Long.calls _ _ l0 true _ ?side1 ?side2 A4.out).mono ?_); (case side1 => repeat (first | exact (Kd.C_below HR0.out HB.out) | (with_reducible refine Kd.C_alloc ?_ _) | (with_reducible refine Kd.C_drewN ?_ _) | (with_reducible refine Kd.C_drew ?_))); (case side2 => exact HC0.out); rintro e w' ⟨rfl, ⟨nd, rfl⟩⟩; (try first | exact ⟨rfl, _, World.drewN_drewN _ _ _⟩ | exact ⟨rfl, _, Eq.trans (World.drewN_drewN _ _ _) (congrArg (World.drewN _) (Nat.add_assoc _ _ _))⟩))); try go_wp2_with (first | (go_at_call 14; (with_reducible refine (laws_b10Long.calls _ _ l0 true _ ?side1 ?side2 A4.out).mono ?_); (case side1 => repeat (first | exact (Kd.C_below HR0.out HB.out) | (with_reducible refine Kd.C_alloc ?_ _) | (with_reducible refine Kd.C_drewN ?_ _) | (with_reducible refine Kd.C_drew ?_))); (case side2 => exact HC0.out); rintro e w' ⟨rfl, ⟨nd, rfl⟩⟩; (try first | exact ⟨rfl, _, World.drewN_drewN _ _ _⟩ | exact ⟨rfl, _, Eq.trans (World.drewN_drewN _ _ _) (congrArg (World.drewN _) (Nat.add_assoc _ _ _))⟩))))
   go_meet
   case rel => exact ⟨_, (true), sZ, H', ⟨by first | omega | exact Nat.le_refl _⟩, ⟨bZ⟩⟩
  ·replace c5 := Bool.eq_false_iff.mpr c5
   subst c5
   have H1 : ((laws_b10Long.f l1).bind fun t355 => (laws_FnPages.j0 k l0 l1 t355)) = some r := by rw [if_neg (show ¬ (false = true) by decide)] at H; exact H
   clear H
   have H := H1
   clear H1
   replace H := Option.bind_eq_some_iff.mp H
   obtain ⟨t355, A60, H⟩ := H
   replace H : (laws_FnPages.j0 k l0 l1 t355) = some r := H
   have A6 := Aside0.mk A60
   clear A60
   have H' := Aside0.mk H
   clear H
   go_wp2_with (first | (go_at_call 14; (with_reducible refine (laws_b10Long.calls _ _ l0 false _ ?side1 ?side2 A4.out).mono ?_); (case side1 => repeat (first | exact (Kd.C_below HR0.out HB.out) | (with_reducible refine Kd.C_alloc ?_ _) | (with_reducible refine Kd.C_drewN ?_ _) | (with_reducible refine Kd.C_drew ?_))); (case side2 => exact HC0.out); rintro e w' ⟨rfl, ⟨nd, rfl⟩⟩; (try first | exact ⟨rfl, _, World.drewN_drewN _ _ _⟩ | exact ⟨rfl, _, Eq.trans (World.drewN_drewN _ _ _) (congrArg (World.drewN _) (Nat.add_assoc _ _ _))⟩)) | (go_at_call 14; (with_reducible refine (laws_b10Long.calls _ _ l1 t355 _ ?side1 ?side2 A6.out).mono ?_); (case side1 => repeat (first | exact (Kd.C_below HR1.out bZ) | (with_reducible refine Kd.C_alloc ?_ _) | (with_reducible refine Kd.C_drewN ?_ _) | (with_reducible refine Kd.C_drew ?_))); (case side2 => exact HC1.out); rintro e w' ⟨rfl, ⟨nd, rfl⟩⟩; (try first | exact ⟨rfl, _, World.drewN_drewN _ _ _⟩ | exact ⟨rfl, _, Eq.trans (World.drewN_drewN _ _ _) (congrArg (World.drewN _) (Nat.add_assoc _ _ _))⟩)))
   repeat (go_quiet (first | (go_at_call 14; (with_reducible refine (laws_b10Long.calls _ _ l0 false _ ?side1 ?side2 A4.out).mono ?_); (case side1 => repeat (first | exact (Kd.C_below HR0.out HB.out) | (with_reducible refine Kd.C_alloc ?_ _) | (with_reducible refine Kd.C_drewN ?_ _) | (with_reducible refine Kd.C_drew ?_))); (case side2 => exact HC0.out); rintro e w' ⟨rfl, ⟨nd, rfl⟩⟩; (try first | exact ⟨rfl, _, World.drewN_drewN _ _ _⟩ | exact ⟨rfl, _, Eq.trans (World.drewN_drewN _ _ _) (congrArg (World.drewN _) (Nat.add_assoc _ _ _))⟩)) | (go_at_call 14; (with_reducible refine (laws_b10Long.calls _ _ l1 t355 _ ?side1 ?side2 A6.out).mono ?_); (case side1 => repeat (first | exact (Kd.C_below HR1.out bZ) | (with_reducible refine Kd.C_alloc ?_ _) | (with_reducible refine Kd.C_drewN ?_ _) | (with_reducible refine Kd.C_drew ?_))); (case side2 => exact HC1.out); rintro e w' ⟨rfl, ⟨nd, rfl⟩⟩; (try first | exact ⟨rfl, _, World.drewN_drewN _ _ _⟩ | exact ⟨rfl, _, Eq.trans (World.drewN_drewN _ _ _) (congrArg (World.drewN _) (Nat.add_assoc _ _ _))⟩))); try go_wp2_with (first | (go_at_call 14; (with_reducible refine (laws_b10Long.calls _ _ l0 false _ ?side1 ?side2 A4.out).mono ?_); (case side1 => repeat (first | exact (Kd.C_below HR0.out HB.out) | (with_reducible refine Kd.C_alloc ?_ _) | (with_reducible refine Kd.C_drewN ?_ _) | (with_reducible refine Kd.C_drew ?_))); (case side2 => exact HC0.out); rintro e w' ⟨rfl, ⟨nd, rfl⟩⟩; (try first | exact ⟨rfl, _, World.drewN_drewN _ _ _⟩ | exact ⟨rfl, _, Eq.trans (World.drewN_drewN _ _ _) (congrArg (World.drewN _) (Nat.add_assoc _ _ _))⟩)) | (go_at_call 14; (with_reducible refine (laws_b10Long.calls _ _ l1 t355 _ ?side1 ?side2 A6.out).mono ?_); (case side1 => repeat (first | exact (Kd.C_below HR1.out bZ) | (with_reducible refine Kd.C_alloc ?_ _) | (with_reducible refine Kd.C_drewN ?_ _) | (with_reducible refine Kd.C_drew ?_))); (case side2 => exact HC1.out); rintro e w' ⟨rfl, ⟨nd, rfl⟩⟩; (try first | exact ⟨rfl, _, World.drewN_drewN _ _ _⟩ | exact ⟨rfl, _, Eq.trans (World.drewN_drewN _ _ _) (congrArg (World.drewN _) (Nat.add_assoc _ _ _))⟩))))
   go_meet
   case rel => exact ⟨_, (t355), sZ, H', ⟨by first | omega | exact Nat.le_refl _⟩, ⟨bZ⟩⟩
 case rest =>
  as_aux_lemma =>
  clear HC3; (try clear c1); (try clear p2); (try clear c4); (try clear c5)
  obtain ⟨kq, x29_2, rfl, HA, HJ2, HB⟩ := hcut
  cases kq with
  | zero => exact absurd HA.out (by simp [laws_FnPages.j0])
  | succ kj2 =>
   have H := HA.out
   clear HA
   simp only [laws_FnPages.j0] at H
   by_cases c7 : x29_2 = true
   ·subst c7
    have H1 : (some true) = some r := by rw [if_pos rfl] at H; exact H
    clear H
    have H := H1
    clear H1
    obtain rfl := Option.some.inj H
    go_wp2
    repeat (go_quiet (fail); try go_wp2)
    go_ret
    exact ⟨eZ, bZ⟩
   ·replace c7 := Bool.eq_false_iff.mpr c7
    subst c7
    have H1 : ((spec_DrawPagesOf.f kj2 l0).bind fun bt356 => ((impl_PagesOf.f kj2 bt356.1 bt356.2.1 bt356.2.2).bind fun bt361 => (if bt361.2 = 0 then (laws_FnPages.l0 kj2 l0 l1 bt356.1 bt356.2.1 bt356.2.2 bt361.1 0 0) else (laws_FnPages.j4 kj2 l0 l1)))) = some r := by rw [if_neg (show ¬ (false = true) by decide)] at H; exact H
    clear H
    have H := H1
    clear H1
    replace H := Option.bind_eq_some_iff.mp H
    obtain ⟨⟨t356, t357, t358⟩, A80, H⟩ := H
    replace H : ((impl_PagesOf.f kj2 t356 t357 t358).bind fun bt361 => (if bt361.2 = 0 then (laws_FnPages.l0 kj2 l0 l1 t356 t357 t358 bt361.1 0 0) else (laws_FnPages.j4 kj2 l0 l1))) = some r := H
    have A8 := Aside0.mk A80
    clear A80
    replace H := Option.bind_eq_some_iff.mp H
    obtain ⟨⟨t361, t362⟩, A90, H⟩ := H
    replace H : (if t362 = 0 then (laws_FnPages.l0 kj2 l0 l1 t356 t357 t358 t361 0 0) else (laws_FnPages.j4 kj2 l0 l1)) = some r := H
    have A9 := Aside0.mk A90
    clear A90
    have HC10 := Aside0.mk H
    clear H
    go_upto_if 44 with (first | (go_at_call 15; (with_reducible refine (spec_DrawPagesOf.calls kj2 _ _ l0 t356 t357 t358 _ ?side1 ?side2 A8.out).mono ?_); (case side1 => repeat (first | exact (Kd.C_below HR0.out HB.out) | (with_reducible refine Kd.C_alloc ?_ _) | (with_reducible refine Kd.C_drewN ?_ _) | (with_reducible refine Kd.C_drew ?_))); (case side2 => exact HC0.out); rintro e w11 ⟨v359, rfl, ho0, hb⟩; have n0_ := Aside0.mk (Kd.R_lower ho0 bsZ); have n1_ := Aside0.mk (below_step bZ hb); clear HB; have HO360 := n0_; have HB := n1_; clear n0_ n1_; (try clear hb); (try clear hb2); (try clear hk); (try clear hi); (try clear ho0); obtain ⟨Ao12, co12, eo12⟩ := Kd.R_slice HO360.out; subst eo12) | (go_at_call 8; (with_reducible refine (impl_PagesOf.calls kj2 _ _ t356 t357 t358 t361 t362 _ ?side1 ?side2 A9.out).mono ?_); (case side1 => exact Kd.cZ HO360.out); (case side2 => exact (Kd.R_reads' HO360.out).2.1); rintro e w13 ⟨v363, rfl, ho0, hb⟩; have n0_ := Aside0.mk (Kd.R_below (Kd.rZ HO360.out) hb); have n1_ := Aside0.mk (Kd.S_lower (Kd.S_new' ho0 (Kd.R_lt (Kd.rZ HO360.out))) bsZ); have n2_ := Aside0.mk (below_step bZ hb); clear HO360; clear HB; have HO360 := n0_; have HO364 := n1_; have HB := n2_; clear n0_ n1_ n2_; (try clear hb); (try clear hb2); (try clear hk); (try clear hi); (try clear ho0)))
    repeat (go_quiet (first | (go_at_call 15; (with_reducible refine (spec_DrawPagesOf.calls kj2 _ _ l0 t356 t357 t358 _ ?side1 ?side2 A8.out).mono ?_); (case side1 => repeat (first | exact (Kd.C_below HR0.out HB.out) | (with_reducible refine Kd.C_alloc ?_ _) | (with_reducible refine Kd.C_drewN ?_ _) | (with_reducible refine Kd.C_drew ?_))); (case side2 => exact HC0.out); rintro e w11 ⟨v359, rfl, ho0, hb⟩; have n0_ := Aside0.mk (Kd.R_lower ho0 bsZ); have n1_ := Aside0.mk (below_step bZ hb); clear HB; have HO360 := n0_; have HB := n1_; clear n0_ n1_; (try clear hb); (try clear hb2); (try clear hk); (try clear hi); (try clear ho0); obtain ⟨Ao12, co12, eo12⟩ := Kd.R_slice HO360.out; subst eo12) | (go_at_call 8; (with_reducible refine (impl_PagesOf.calls kj2 _ _ t356 t357 t358 t361 t362 _ ?side1 ?side2 A9.out).mono ?_); (case side1 => exact Kd.cZ HO360.out); (case side2 => exact (Kd.R_reads' HO360.out).2.1); rintro e w13 ⟨v363, rfl, ho0, hb⟩; have n0_ := Aside0.mk (Kd.R_below (Kd.rZ HO360.out) hb); have n1_ := Aside0.mk (Kd.S_lower (Kd.S_new' ho0 (Kd.R_lt (Kd.rZ HO360.out))) bsZ); have n2_ := Aside0.mk (below_step bZ hb); clear HO360; clear HB; have HO360 := n0_; have HO364 := n1_; have HB := n2_; clear n0_ n1_ n2_; (try clear hb); (try clear hb2); (try clear hk); (try clear hi); (try clear ho0))); go_upto_if 44 with (first | (go_at_call 15; (with_reducible refine (spec_DrawPagesOf.calls kj2 _ _ l0 t356 t357 t358 _ ?side1 ?side2 A8.out).mono ?_); (case side1 => repeat (first | exact (Kd.C_below HR0.out HB.out) | (with_reducible refine Kd.C_alloc ?_ _) | (with_reducible refine Kd.C_drewN ?_ _) | (with_reducible refine Kd.C_drew ?_))); (case side2 => exact HC0.out); rintro e w11 ⟨v359, rfl, ho0, hb⟩; have n0_ := Aside0.mk (Kd.R_lower ho0 bsZ); have n1_ := Aside0.mk (below_step bZ hb); clear HB; have HO360 := n0_; have HB := n1_; clear n0_ n1_; (try clear hb); (try clear hb2); (try clear hk); (try clear hi); (try clear ho0); obtain ⟨Ao12, co12, eo12⟩ := Kd.R_slice HO360.out; subst eo12) | (go_at_call 8; (with_reducible refine (impl_PagesOf.calls kj2 _ _ t356 t357 t358 t361 t362 _ ?side1 ?side2 A9.out).mono ?_); (case side1 => exact Kd.cZ HO360.out); (case side2 => exact (Kd.R_reads' HO360.out).2.1); rintro e w13 ⟨v363, rfl, ho0, hb⟩; have n0_ := Aside0.mk (Kd.R_below (Kd.rZ HO360.out) hb); have n1_ := Aside0.mk (Kd.S_lower (Kd.S_new' ho0 (Kd.R_lt (Kd.rZ HO360.out))) bsZ); have n2_ := Aside0.mk (below_step bZ hb); clear HO360; clear HB; have HO360 := n0_; have HO364 := n1_; have HB := n2_; clear n0_ n1_ n2_; (try clear hb); (try clear hb2); (try clear hk); (try clear hi); (try clear ho0))))
    (try simp only [Act.put, List.setIfInBounds_toArray, List.set_cons_zero, List.set_cons_succ])
    go_cut [] (fun wc => ∃ (kq : Nat), Aside0 (laws_FnPages.j4 kq l0 l1 = some r) ∧ Aside0 (kq ≤ kj2) ∧ Aside0 (Below w.heap.size w wc))
    case first =>
     as_aux_lemma =>
     have H := HC10.out
     clear HC10
     by_cases c14 : t362 = 0
     ·rw [if_pos c14] at H
      have c14b0 : (t362 == 0) = true := beq_iff_eq.mpr c14
      have c14b1 : (t362 != 0) = false := bne_eq_false_iff_eq.mpr c14
      clear c14
      (first | rw [c14b0] | (simp only [i64_w, i32_w]; rw [c14b0]) | skip)
      have H' := Aside0.mk H
      clear H
      go_wp2
      repeat (go_quiet (fail); try go_wp2)
      go_loopg [10, 11] kj2 (fun kq v10 v11 w' => ∃ (x10_2 : Int) (x11_2 : Int), v10 = .int .i64 x10_2 ∧ v11 = .int .i64 x11_2 ∧ Aside0 (laws_FnPages.l0 kq l0 l1 t356 t357 t358 t361 x10_2 x11_2 = some r) ∧ Aside0 (kq ≤ kj2) ∧ Aside0 (Kd.R Kd.string 9 w' w.heap.size (fun _ => True) (.slice Ao12 t356.length co12) t356) ∧ Aside0 (Kd.S (Kd.slice 9 Kd.string) 22 w' w.heap.size (fun k_ => some k_ ≠ ((.slice Ao12 t356.length co12) : Value).ownBlock) v363 t361) ∧ Aside0 (Below w.heap.size w w'))
      case atStart => exact ⟨(0), (0), sZ, sZ, H', ⟨Nat.le_refl _⟩, ⟨Kd.rZ HO360.out⟩, ⟨by (with_reducible repeat (first | apply Kd.S_alloc | apply Kd.S_drewN | apply Kd.S_drew)); exact Kd.S_mono HO364.out (fun _ hk => hk.2)⟩, ⟨bZ⟩⟩
      case round =>
       as_aux_lemma =>
       clear H'; (try clear c1); (try clear p2); (try clear c4); (try clear c5); (try clear c7); (try clear c14); (try clear c14b0); (try clear c14b1); (try clear p2)
       obtain ⟨x10_2, x11_2, rfl, rfl, HA, HK2, HO_5, HO_8, HB⟩ := hrel
       cases gk with
       | zero => exact absurd HA.out (by simp [laws_FnPages.l0])
       | succ k2 =>
        have H := HA.out
        clear HA
        simp only [laws_FnPages.l0] at H
        by_cases c15 : x11_2 < (t361.length : Int)
        ·rw [if_pos c15] at H
         have c15b0 : decide (x11_2 < (t361.length : Int)) = true := decide_eq_true c15
         clear c15
         have HC16 := Aside0.mk H
         clear H
         obtain ⟨Ao17, co17, eo17⟩ := Kd.S_slice HO_8.out
         subst eo17
         go_upto_region 10 with (fail)
         repeat (go_quiet (fail); go_upto_region 10 with (fail))
         go_cut [91] (fun v91 wc => ∃ (kq : Nat) (x91_15 : Bool), v91 = .bool x91_15 ∧ Aside0 (laws_FnPages.j2 kq l0 l1 t356 t357 t358 t361 x10_2 x11_2 x91_15 = some r) ∧ Aside0 (kq ≤ k2) ∧ Aside0 (Kd.R Kd.string 9 wc w.heap.size (fun _ => True) (.slice Ao12 t356.length co12) t356) ∧ Aside0 (Kd.S (Kd.slice 9 Kd.string) 22 wc w.heap.size (fun k_ => some k_ ≠ ((.slice Ao12 t356.length co12) : Value).ownBlock) (.slice Ao17 t361.length co17) t361) ∧ Aside0 (Below w.heap.size w wc))
         case first =>
          as_aux_lemma =>
          have H := HC16.out
          clear HC16
          by_cases c18 : 0 ≤ x11_2
          ·rw [if_pos c18] at H
           have c18b0 : decide (0 ≤ x11_2) = true := decide_eq_true c18
           clear c18
           (first | rw [c18b0] | (simp only [i64_w, i32_w]; rw [c18b0]) | skip)
           by_cases c19 : ((rd_L1 t361 x11_2).length : Int) < 2
           ·rw [if_pos c19] at H
            have c19b0 : decide (((rd_L1 t361 x11_2).length : Int) < 2) = true := decide_eq_true c19
            have c19b1 : decide ((rd_L1 t361 x11_2).length < 2) = true := decide_eq_true (by omega)
            clear c19
            have H' := Aside0.mk H
            clear H
            have p365 : 0 ≤ (x11_2 : Int) := oZ
            have q365 : x11_2 < (t361.length : Int) := oZ
            obtain ⟨ad365, A365_0, c365_0, e365, hx365_0, hl365_0, hi365_0⟩ := at_L1 (Kd.S_reads' HO_8.out).2.2 x11_2 p365 q365
            cases e365
            obtain ⟨ce365, hce365, hMe365, hcc365⟩ := Kd.S_get HO_8.out [] x11_2 p365 (by first | exact q365 | exact oZ | (have e_ := (Kd.S_reads' HO_8.out).1; omega))
            obtain ⟨ve365_0, rfl, ge365_0⟩ := hMe365
            have hv365_0 := hcc365 0 _ rfl
            rw [Nat.add_zero, show ((Kd.slice 9 Kd.string)).sz = 1 from rfl, Nat.mul_one] at hv365_0
            replace hv365_0 := Option.some.inj (hv365_0.symm.trans hx365_0)
            rw [hv365_0] at ge365_0
            have HL365_0 := Aside0.mk (show Kd.R Kd.string 9 _ _ _ _ (rd_L1 t361 x11_2) from ge365_0)
            clear hv365_0 ge365_0
            clear hcc365 hce365
            have HR365_0 := Aside0.mk hi365_0
            have HC365_0 := Aside0.mk hl365_0
            clear hi365_0 hl365_0
            replace p365 := eq_true p365
            replace q365 := eq_true q365
            go_wp2
            repeat (go_quiet (fail); try go_wp2)
            go_meet
            case rel => exact ⟨_, (true), sZ, H', ⟨by have := HJ2.out; have := HK2.out; first | omega | exact Nat.le_refl _⟩, ⟨Kd.rZ HO_5.out⟩, ⟨by (with_reducible repeat (first | apply Kd.S_alloc | apply Kd.S_drewN | apply Kd.S_drew)); exact HO_8.out⟩, ⟨bZ⟩⟩
           ·rw [if_neg c19] at H
            have c19b0 : decide (((rd_L1 t361 x11_2).length : Int) < 2) = false := decide_eq_false c19
            have c19b1 : decide ((rd_L1 t361 x11_2).length < 2) = false := decide_eq_false (by omega)
            clear c19
            by_cases c20 : ((rd_L1 t361 x11_2).length : Int) > t357
            ·rw [if_pos c20] at H
             have c20b0 : decide (t357 < ((rd_L1 t361 x11_2).length : Int)) = true := decide_eq_true c20
             clear c20
             have H' := Aside0.mk H
             clear H
             have p365 : 0 ≤ (x11_2 : Int) := oZ
             have q365 : x11_2 < (t361.length : Int) := oZ
             obtain ⟨ad365, A365_0, c365_0, e365, hx365_0, hl365_0, hi365_0⟩ := at_L1 (Kd.S_reads' HO_8.out).2.2 x11_2 p365 q365
             cases e365
             obtain ⟨ce365, hce365, hMe365, hcc365⟩ := Kd.S_get HO_8.out [] x11_2 p365 (by first | exact q365 | exact oZ | (have e_ := (Kd.S_reads' HO_8.out).1; omega))
             obtain ⟨ve365_0, rfl, ge365_0⟩ := hMe365
             have hv365_0 := hcc365 0 _ rfl
             rw [Nat.add_zero, show ((Kd.slice 9 Kd.string)).sz = 1 from rfl, Nat.mul_one] at hv365_0
             replace hv365_0 := Option.some.inj (hv365_0.symm.trans hx365_0)
             rw [hv365_0] at ge365_0
             have HL365_0 := Aside0.mk (show Kd.R Kd.string 9 _ _ _ _ (rd_L1 t361 x11_2) from ge365_0)
             clear hv365_0 ge365_0
             clear hcc365 hce365
             have HR365_0 := Aside0.mk hi365_0
             have HC365_0 := Aside0.mk hl365_0
             clear hi365_0 hl365_0
             replace p365 := eq_true p365
             replace q365 := eq_true q365
             have p366 : 0 ≤ (x11_2 : Int) := oZ
             have q366 : x11_2 < (t361.length : Int) := oZ
             obtain ⟨ad366, A366_0, c366_0, e366, hx366_0, hl366_0, hi366_0⟩ := at_L1 (Kd.S_reads' HO_8.out).2.2 x11_2 p366 q366
             obtain rfl : ad365 = ad366 := (by injection e366)
             obtain ⟨ce366, hce366, hMe366, hcc366⟩ := Kd.S_get HO_8.out [] x11_2 p366 (by first | exact q366 | exact oZ | (have e_ := (Kd.S_reads' HO_8.out).1; omega))
             obtain ⟨ve366_0, rfl, ge366_0⟩ := hMe366
             have hv366_0 := hcc366 0 _ rfl
             rw [Nat.add_zero, show ((Kd.slice 9 Kd.string)).sz = 1 from rfl, Nat.mul_one] at hv366_0
             replace hv366_0 := Option.some.inj (hv366_0.symm.trans hx366_0)
             rw [hv366_0] at ge366_0
             have HL366_0 := Aside0.mk (show Kd.R Kd.string 9 _ _ _ _ (rd_L1 t361 x11_2) from ge366_0)
             clear hv366_0 ge366_0
             clear hcc366 hce366
             have HR366_0 := Aside0.mk hi366_0
             have HC366_0 := Aside0.mk hl366_0
             clear hi366_0 hl366_0
             replace p366 := eq_true p366
             replace q366 := eq_true q366
             have ea_ := Option.some.inj (hx365_0.symm.trans hx366_0)
             injection ea_ with ea_ en_ ec_
             subst ea_
             subst ec_
             clear en_
             go_wp2
             repeat (go_quiet (fail); try go_wp2)
             go_meet
             case rel => exact ⟨_, (true), sZ, H', ⟨by have := HJ2.out; have := HK2.out; first | omega | exact Nat.le_refl _⟩, ⟨Kd.rZ HO_5.out⟩, ⟨by (with_reducible repeat (first | apply Kd.S_alloc | apply Kd.S_drewN | apply Kd.S_drew)); exact HO_8.out⟩, ⟨bZ⟩⟩
            ·rw [if_neg c20] at H
             have c20b0 : decide (t357 < ((rd_L1 t361 x11_2).length : Int)) = false := decide_eq_false c20
             clear c20
             by_cases c21 : 0 < ((rd_L1 t361 x11_2).length : Int)
             ·rw [if_pos c21] at H
              have c21b0 : decide (0 < ((rd_L1 t361 x11_2).length : Int)) = true := decide_eq_true c21
              have c21b1 : decide (0 < (rd_L1 t361 x11_2).length) = true := decide_eq_true (by omega)
              clear c21
              by_cases c22 : (rdOf ByteArray.empty (rd_L1 t361 x11_2) 0).toList = t358.toList
              ·rw [if_pos c22] at H
               have c22b0 : ((rdOf ByteArray.empty (rd_L1 t361 x11_2) 0).toList == t358.toList) = true := beq_iff_eq.mpr c22
               have c22b1 : ((rdOf ByteArray.empty (rd_L1 t361 x11_2) 0).toList != t358.toList) = false := bne_eq_false_iff_eq.mpr c22
               clear c22
               by_cases c23 : (wrap64 (x11_2 + 1)) < (t361.length : Int)
               ·rw [if_pos c23] at H
                have c23b0 : decide ((wrap64 (x11_2 + 1)) < (t361.length : Int)) = true := decide_eq_true c23
                clear c23
                have H' := Aside0.mk H
                clear H
                have p365 : 0 ≤ (x11_2 : Int) := oZ
                have q365 : x11_2 < (t361.length : Int) := oZ
                obtain ⟨ad365, A365_0, c365_0, e365, hx365_0, hl365_0, hi365_0⟩ := at_L1 (Kd.S_reads' HO_8.out).2.2 x11_2 p365 q365
                cases e365
                obtain ⟨ce365, hce365, hMe365, hcc365⟩ := Kd.S_get HO_8.out [] x11_2 p365 (by first | exact q365 | exact oZ | (have e_ := (Kd.S_reads' HO_8.out).1; omega))
                obtain ⟨ve365_0, rfl, ge365_0⟩ := hMe365
                have hv365_0 := hcc365 0 _ rfl
                rw [Nat.add_zero, show ((Kd.slice 9 Kd.string)).sz = 1 from rfl, Nat.mul_one] at hv365_0
                replace hv365_0 := Option.some.inj (hv365_0.symm.trans hx365_0)
                rw [hv365_0] at ge365_0
                have HL365_0 := Aside0.mk (show Kd.R Kd.string 9 _ _ _ _ (rd_L1 t361 x11_2) from ge365_0)
                clear hv365_0 ge365_0
                clear hcc365 hce365
                have HR365_0 := Aside0.mk hi365_0
                have HC365_0 := Aside0.mk hl365_0
                clear hi365_0 hl365_0
                replace p365 := eq_true p365
                replace q365 := eq_true q365
                have p366 : 0 ≤ (x11_2 : Int) := oZ
                have q366 : x11_2 < (t361.length : Int) := oZ
                obtain ⟨ad366, A366_0, c366_0, e366, hx366_0, hl366_0, hi366_0⟩ := at_L1 (Kd.S_reads' HO_8.out).2.2 x11_2 p366 q366
                obtain rfl : ad365 = ad366 := (by injection e366)
                obtain ⟨ce366, hce366, hMe366, hcc366⟩ := Kd.S_get HO_8.out [] x11_2 p366 (by first | exact q366 | exact oZ | (have e_ := (Kd.S_reads' HO_8.out).1; omega))
                obtain ⟨ve366_0, rfl, ge366_0⟩ := hMe366
                have hv366_0 := hcc366 0 _ rfl
                rw [Nat.add_zero, show ((Kd.slice 9 Kd.string)).sz = 1 from rfl, Nat.mul_one] at hv366_0
                replace hv366_0 := Option.some.inj (hv366_0.symm.trans hx366_0)
                rw [hv366_0] at ge366_0
                have HL366_0 := Aside0.mk (show Kd.R Kd.string 9 _ _ _ _ (rd_L1 t361 x11_2) from ge366_0)
                clear hv366_0 ge366_0
                clear hcc366 hce366
                have HR366_0 := Aside0.mk hi366_0
                have HC366_0 := Aside0.mk hl366_0
                clear hi366_0 hl366_0
                replace p366 := eq_true p366
                replace q366 := eq_true q366
                have ea_ := Option.some.inj (hx365_0.symm.trans hx366_0)
                injection ea_ with ea_ en_ ec_
                subst ea_
                subst ec_
                clear en_
                have p367 : 0 ≤ (x11_2 : Int) := oZ
                have q367 : x11_2 < (t361.length : Int) := oZ
                obtain ⟨ad367, A367_0, c367_0, e367, hx367_0, hl367_0, hi367_0⟩ := at_L1 (Kd.S_reads' HO_8.out).2.2 x11_2 p367 q367
                obtain rfl : ad365 = ad367 := (by injection e367)
                obtain ⟨ce367, hce367, hMe367, hcc367⟩ := Kd.S_get HO_8.out [] x11_2 p367 (by first | exact q367 | exact oZ | (have e_ := (Kd.S_reads' HO_8.out).1; omega))
                obtain ⟨ve367_0, rfl, ge367_0⟩ := hMe367
                have hv367_0 := hcc367 0 _ rfl
                rw [Nat.add_zero, show ((Kd.slice 9 Kd.string)).sz = 1 from rfl, Nat.mul_one] at hv367_0
                replace hv367_0 := Option.some.inj (hv367_0.symm.trans hx367_0)
                rw [hv367_0] at ge367_0
                have HL367_0 := Aside0.mk (show Kd.R Kd.string 9 _ _ _ _ (rd_L1 t361 x11_2) from ge367_0)
                clear hv367_0 ge367_0
                clear hcc367 hce367
                have HR367_0 := Aside0.mk hi367_0
                have HC367_0 := Aside0.mk hl367_0
                clear hi367_0 hl367_0
                replace p367 := eq_true p367
                replace q367 := eq_true q367
                have ea_ := Option.some.inj (hx365_0.symm.trans hx367_0)
                injection ea_ with ea_ en_ ec_
                subst ea_
                subst ec_
                clear en_
                have p368 : 0 ≤ (0 : Int) := (by omega)
                have q368 : 0 < ((rd_L1 t361 x11_2).length : Int) := oZ
                obtain ⟨ad368, e368, hx368_0⟩ := Kd.at_string (by repeat (first | (with_reducible exact HR367_0.out) | (with_reducible refine Kd.C_alloc ?_ _) | (with_reducible refine Kd.C_drewN ?_ _) | (with_reducible refine Kd.C_drew ?_) | exact HR367_0.out)) 0 p368 q368
                cases e368
                have qi368 : (0 < (rd_L1 t361 x11_2).length) = True := eq_true (by omega)
                (try rw [show ((0 : Int)).toNat = 0 from rfl] at hx368_0)
                (try rw [Addr.add_zero'] at hx368_0)
                replace p368 := eq_true p368
                replace q368 := eq_true q368
                have p369 : 0 ≤ (x11_2 : Int) := oZ
                have q369 : x11_2 < (t361.length : Int) := oZ
                obtain ⟨ad369, A369_0, c369_0, e369, hx369_0, hl369_0, hi369_0⟩ := at_L1 (Kd.S_reads' HO_8.out).2.2 x11_2 p369 q369
                obtain rfl : ad365 = ad369 := (by injection e369)
                obtain ⟨ce369, hce369, hMe369, hcc369⟩ := Kd.S_get HO_8.out [] x11_2 p369 (by first | exact q369 | exact oZ | (have e_ := (Kd.S_reads' HO_8.out).1; omega))
                obtain ⟨ve369_0, rfl, ge369_0⟩ := hMe369
                have hv369_0 := hcc369 0 _ rfl
                rw [Nat.add_zero, show ((Kd.slice 9 Kd.string)).sz = 1 from rfl, Nat.mul_one] at hv369_0
                replace hv369_0 := Option.some.inj (hv369_0.symm.trans hx369_0)
                rw [hv369_0] at ge369_0
                have HL369_0 := Aside0.mk (show Kd.R Kd.string 9 _ _ _ _ (rd_L1 t361 x11_2) from ge369_0)
                clear hv369_0 ge369_0
                clear hcc369 hce369
                have HR369_0 := Aside0.mk hi369_0
                have HC369_0 := Aside0.mk hl369_0
                clear hi369_0 hl369_0
                replace p369 := eq_true p369
                replace q369 := eq_true q369
                have ea_ := Option.some.inj (hx365_0.symm.trans hx369_0)
                injection ea_ with ea_ en_ ec_
                subst ea_
                subst ec_
                clear en_
                go_wp2
                repeat (go_quiet (fail); try go_wp2)
                go_meet
                case rel => exact ⟨_, ((((rd_L1 t361 x11_2).length : Int) != t357)), sZ, H', ⟨by have := HJ2.out; have := HK2.out; first | omega | exact Nat.le_refl _⟩, ⟨Kd.rZ HO_5.out⟩, ⟨by (with_reducible repeat (first | apply Kd.S_alloc | apply Kd.S_drewN | apply Kd.S_drew)); exact HO_8.out⟩, ⟨bZ⟩⟩
               ·rw [if_neg c23] at H
                have c23b0 : decide ((wrap64 (x11_2 + 1)) < (t361.length : Int)) = false := decide_eq_false c23
                clear c23
                have H' := Aside0.mk H
                clear H
                have p365 : 0 ≤ (x11_2 : Int) := oZ
                have q365 : x11_2 < (t361.length : Int) := oZ
                obtain ⟨ad365, A365_0, c365_0, e365, hx365_0, hl365_0, hi365_0⟩ := at_L1 (Kd.S_reads' HO_8.out).2.2 x11_2 p365 q365
                cases e365
                obtain ⟨ce365, hce365, hMe365, hcc365⟩ := Kd.S_get HO_8.out [] x11_2 p365 (by first | exact q365 | exact oZ | (have e_ := (Kd.S_reads' HO_8.out).1; omega))
                obtain ⟨ve365_0, rfl, ge365_0⟩ := hMe365
                have hv365_0 := hcc365 0 _ rfl
                rw [Nat.add_zero, show ((Kd.slice 9 Kd.string)).sz = 1 from rfl, Nat.mul_one] at hv365_0
                replace hv365_0 := Option.some.inj (hv365_0.symm.trans hx365_0)
                rw [hv365_0] at ge365_0
                have HL365_0 := Aside0.mk (show Kd.R Kd.string 9 _ _ _ _ (rd_L1 t361 x11_2) from ge365_0)
                clear hv365_0 ge365_0
                clear hcc365 hce365
                have HR365_0 := Aside0.mk hi365_0
                have HC365_0 := Aside0.mk hl365_0
                clear hi365_0 hl365_0
                replace p365 := eq_true p365
                replace q365 := eq_true q365
                have p366 : 0 ≤ (x11_2 : Int) := oZ
                have q366 : x11_2 < (t361.length : Int) := oZ
                obtain ⟨ad366, A366_0, c366_0, e366, hx366_0, hl366_0, hi366_0⟩ := at_L1 (Kd.S_reads' HO_8.out).2.2 x11_2 p366 q366
                obtain rfl : ad365 = ad366 := (by injection e366)
                obtain ⟨ce366, hce366, hMe366, hcc366⟩ := Kd.S_get HO_8.out [] x11_2 p366 (by first | exact q366 | exact oZ | (have e_ := (Kd.S_reads' HO_8.out).1; omega))
                obtain ⟨ve366_0, rfl, ge366_0⟩ := hMe366
                have hv366_0 := hcc366 0 _ rfl
                rw [Nat.add_zero, show ((Kd.slice 9 Kd.string)).sz = 1 from rfl, Nat.mul_one] at hv366_0
                replace hv366_0 := Option.some.inj (hv366_0.symm.trans hx366_0)
                rw [hv366_0] at ge366_0
                have HL366_0 := Aside0.mk (show Kd.R Kd.string 9 _ _ _ _ (rd_L1 t361 x11_2) from ge366_0)
                clear hv366_0 ge366_0
                clear hcc366 hce366
                have HR366_0 := Aside0.mk hi366_0
                have HC366_0 := Aside0.mk hl366_0
                clear hi366_0 hl366_0
                replace p366 := eq_true p366
                replace q366 := eq_true q366
                have ea_ := Option.some.inj (hx365_0.symm.trans hx366_0)
                injection ea_ with ea_ en_ ec_
                subst ea_
                subst ec_
                clear en_
                have p367 : 0 ≤ (x11_2 : Int) := oZ
                have q367 : x11_2 < (t361.length : Int) := oZ
                obtain ⟨ad367, A367_0, c367_0, e367, hx367_0, hl367_0, hi367_0⟩ := at_L1 (Kd.S_reads' HO_8.out).2.2 x11_2 p367 q367
                obtain rfl : ad365 = ad367 := (by injection e367)
                obtain ⟨ce367, hce367, hMe367, hcc367⟩ := Kd.S_get HO_8.out [] x11_2 p367 (by first | exact q367 | exact oZ | (have e_ := (Kd.S_reads' HO_8.out).1; omega))
                obtain ⟨ve367_0, rfl, ge367_0⟩ := hMe367
                have hv367_0 := hcc367 0 _ rfl
                rw [Nat.add_zero, show ((Kd.slice 9 Kd.string)).sz = 1 from rfl, Nat.mul_one] at hv367_0
                replace hv367_0 := Option.some.inj (hv367_0.symm.trans hx367_0)
                rw [hv367_0] at ge367_0
                have HL367_0 := Aside0.mk (show Kd.R Kd.string 9 _ _ _ _ (rd_L1 t361 x11_2) from ge367_0)
                clear hv367_0 ge367_0
                clear hcc367 hce367
                have HR367_0 := Aside0.mk hi367_0
                have HC367_0 := Aside0.mk hl367_0
                clear hi367_0 hl367_0
                replace p367 := eq_true p367
                replace q367 := eq_true q367
                have ea_ := Option.some.inj (hx365_0.symm.trans hx367_0)
                injection ea_ with ea_ en_ ec_
                subst ea_
                subst ec_
                clear en_
                have p368 : 0 ≤ (0 : Int) := (by omega)
                have q368 : 0 < ((rd_L1 t361 x11_2).length : Int) := oZ
                obtain ⟨ad368, e368, hx368_0⟩ := Kd.at_string (by repeat (first | (with_reducible exact HR367_0.out) | (with_reducible refine Kd.C_alloc ?_ _) | (with_reducible refine Kd.C_drewN ?_ _) | (with_reducible refine Kd.C_drew ?_) | exact HR367_0.out)) 0 p368 q368
                cases e368
                have qi368 : (0 < (rd_L1 t361 x11_2).length) = True := eq_true (by omega)
                (try rw [show ((0 : Int)).toNat = 0 from rfl] at hx368_0)
                (try rw [Addr.add_zero'] at hx368_0)
                replace p368 := eq_true p368
                replace q368 := eq_true q368
                go_wp2
                repeat (go_quiet (fail); try go_wp2)
                go_meet
                case rel => exact ⟨_, (false), sZ, H', ⟨by have := HJ2.out; have := HK2.out; first | omega | exact Nat.le_refl _⟩, ⟨Kd.rZ HO_5.out⟩, ⟨by (with_reducible repeat (first | apply Kd.S_alloc | apply Kd.S_drewN | apply Kd.S_drew)); exact HO_8.out⟩, ⟨bZ⟩⟩
              ·rw [if_neg c22] at H
               have c22b0 : ((rdOf ByteArray.empty (rd_L1 t361 x11_2) 0).toList == t358.toList) = false := beq_eq_false_iff_ne.mpr c22
               have c22b1 : ((rdOf ByteArray.empty (rd_L1 t361 x11_2) 0).toList != t358.toList) = true := bne_iff_ne.mpr c22
               have H' := Aside0.mk H
               clear H
               have p365 : 0 ≤ (x11_2 : Int) := oZ
               have q365 : x11_2 < (t361.length : Int) := oZ
               obtain ⟨ad365, A365_0, c365_0, e365, hx365_0, hl365_0, hi365_0⟩ := at_L1 (Kd.S_reads' HO_8.out).2.2 x11_2 p365 q365
               cases e365
               obtain ⟨ce365, hce365, hMe365, hcc365⟩ := Kd.S_get HO_8.out [] x11_2 p365 (by first | exact q365 | exact oZ | (have e_ := (Kd.S_reads' HO_8.out).1; omega))
               obtain ⟨ve365_0, rfl, ge365_0⟩ := hMe365
               have hv365_0 := hcc365 0 _ rfl
               rw [Nat.add_zero, show ((Kd.slice 9 Kd.string)).sz = 1 from rfl, Nat.mul_one] at hv365_0
               replace hv365_0 := Option.some.inj (hv365_0.symm.trans hx365_0)
               rw [hv365_0] at ge365_0
               have HL365_0 := Aside0.mk (show Kd.R Kd.string 9 _ _ _ _ (rd_L1 t361 x11_2) from ge365_0)
               clear hv365_0 ge365_0
               clear hcc365 hce365
               have HR365_0 := Aside0.mk hi365_0
               have HC365_0 := Aside0.mk hl365_0
               clear hi365_0 hl365_0
               replace p365 := eq_true p365
               replace q365 := eq_true q365
               have p366 : 0 ≤ (x11_2 : Int) := oZ
               have q366 : x11_2 < (t361.length : Int) := oZ
               obtain ⟨ad366, A366_0, c366_0, e366, hx366_0, hl366_0, hi366_0⟩ := at_L1 (Kd.S_reads' HO_8.out).2.2 x11_2 p366 q366
               obtain rfl : ad365 = ad366 := (by injection e366)
               obtain ⟨ce366, hce366, hMe366, hcc366⟩ := Kd.S_get HO_8.out [] x11_2 p366 (by first | exact q366 | exact oZ | (have e_ := (Kd.S_reads' HO_8.out).1; omega))
               obtain ⟨ve366_0, rfl, ge366_0⟩ := hMe366
               have hv366_0 := hcc366 0 _ rfl
               rw [Nat.add_zero, show ((Kd.slice 9 Kd.string)).sz = 1 from rfl, Nat.mul_one] at hv366_0
               replace hv366_0 := Option.some.inj (hv366_0.symm.trans hx366_0)
               rw [hv366_0] at ge366_0
               have HL366_0 := Aside0.mk (show Kd.R Kd.string 9 _ _ _ _ (rd_L1 t361 x11_2) from ge366_0)
               clear hv366_0 ge366_0
               clear hcc366 hce366
               have HR366_0 := Aside0.mk hi366_0
               have HC366_0 := Aside0.mk hl366_0
               clear hi366_0 hl366_0
               replace p366 := eq_true p366
               replace q366 := eq_true q366
               have ea_ := Option.some.inj (hx365_0.symm.trans hx366_0)
               injection ea_ with ea_ en_ ec_
               subst ea_
               subst ec_
               clear en_
               have p367 : 0 ≤ (x11_2 : Int) := oZ
               have q367 : x11_2 < (t361.length : Int) := oZ
               obtain ⟨ad367, A367_0, c367_0, e367, hx367_0, hl367_0, hi367_0⟩ := at_L1 (Kd.S_reads' HO_8.out).2.2 x11_2 p367 q367
               obtain rfl : ad365 = ad367 := (by injection e367)
               obtain ⟨ce367, hce367, hMe367, hcc367⟩ := Kd.S_get HO_8.out [] x11_2 p367 (by first | exact q367 | exact oZ | (have e_ := (Kd.S_reads' HO_8.out).1; omega))
               obtain ⟨ve367_0, rfl, ge367_0⟩ := hMe367
               have hv367_0 := hcc367 0 _ rfl
               rw [Nat.add_zero, show ((Kd.slice 9 Kd.string)).sz = 1 from rfl, Nat.mul_one] at hv367_0
               replace hv367_0 := Option.some.inj (hv367_0.symm.trans hx367_0)
               rw [hv367_0] at ge367_0
               have HL367_0 := Aside0.mk (show Kd.R Kd.string 9 _ _ _ _ (rd_L1 t361 x11_2) from ge367_0)
               clear hv367_0 ge367_0
               clear hcc367 hce367
               have HR367_0 := Aside0.mk hi367_0
               have HC367_0 := Aside0.mk hl367_0
               clear hi367_0 hl367_0
               replace p367 := eq_true p367
               replace q367 := eq_true q367
               have ea_ := Option.some.inj (hx365_0.symm.trans hx367_0)
               injection ea_ with ea_ en_ ec_
               subst ea_
               subst ec_
               clear en_
               have p368 : 0 ≤ (0 : Int) := (by omega)
               have q368 : 0 < ((rd_L1 t361 x11_2).length : Int) := oZ
               obtain ⟨ad368, e368, hx368_0⟩ := Kd.at_string (by repeat (first | (with_reducible exact HR367_0.out) | (with_reducible refine Kd.C_alloc ?_ _) | (with_reducible refine Kd.C_drewN ?_ _) | (with_reducible refine Kd.C_drew ?_) | exact HR367_0.out)) 0 p368 q368
               cases e368
               have qi368 : (0 < (rd_L1 t361 x11_2).length) = True := eq_true (by omega)
               (try rw [show ((0 : Int)).toNat = 0 from rfl] at hx368_0)
               (try rw [Addr.add_zero'] at hx368_0)
               replace p368 := eq_true p368
               replace q368 := eq_true q368
               go_wp2
               repeat (go_quiet (fail); try go_wp2)
               go_meet
               case rel => exact ⟨_, (true), sZ, H', ⟨by have := HJ2.out; have := HK2.out; first | omega | exact Nat.le_refl _⟩, ⟨Kd.rZ HO_5.out⟩, ⟨by (with_reducible repeat (first | apply Kd.S_alloc | apply Kd.S_drewN | apply Kd.S_drew)); exact HO_8.out⟩, ⟨bZ⟩⟩
             ·rw [if_neg c21] at H
              exact absurd H (by simp)
          ·rw [if_neg c18] at H
           exact absurd H (by simp)
         case rest =>
          as_aux_lemma =>
          clear HC16; (try clear c1); (try clear c2); (try clear p2); (try clear c3); (try clear p3); (try clear q3); (try clear hx3); (try clear qi3); (try clear c4); (try clear c5); (try clear p6); (try clear c7); (try clear c14); (try clear c14b0); (try clear c14b1); (try clear c15); (try clear c15b0); (try clear c18); (try clear c18b0); (try clear c19); (try clear c19b0); (try clear c19b1); (try clear c20); (try clear c20b0); (try clear c21); (try clear c21b0); (try clear c21b1); (try clear c22); (try clear c22b0); (try clear c22b1); (try clear c23); (try clear c23b0); (try clear hx365_0); (try clear hx366_0); (try clear hx367_0); (try clear hx368_0); (try clear hx369_0); (try clear p2); (try clear p365); (try clear p366); (try clear p367); (try clear p368); (try clear p369); (try clear q365); (try clear q366); (try clear q367); (try clear q368); (try clear q369)
          obtain ⟨kq, x91_15, rfl, HA, HJ15, HO_5, HO_8, HB⟩ := hcut
          cases kq with
          | zero => exact absurd HA.out (by simp [laws_FnPages.j2])
          | succ kj15 =>
           have H := HA.out
           clear HA
           simp only [laws_FnPages.j2] at H
           by_cases c24 : x91_15 = true
           ·subst c24
            have H1 : (some false) = some r := by rw [if_pos rfl] at H; exact H
            clear H
            have H := H1
            clear H1
            obtain rfl := Option.some.inj H
            go_wp2
            repeat (go_quiet (fail); try go_wp2)
            go_ret
            exact ⟨eZ, bZ⟩
           ·replace c24 := Bool.eq_false_iff.mpr c24
            subst c24
            have H1 : (laws_FnPages.l1 kj15 l0 l1 t356 t357 t358 t361 x10_2 x11_2 1) = some r := by rw [if_neg (show ¬ (false = true) by decide)] at H; exact H
            clear H
            have H := H1
            clear H1
            have H' := Aside0.mk H
            clear H
            go_wp2
            repeat (go_quiet (fail); try go_wp2)
            go_loopg [10, 12] kj15 (fun kq v10 v12 w' => ∃ (x10_4 : Int) (x12_4 : Int), v10 = .int .i64 x10_4 ∧ v12 = .int .i64 x12_4 ∧ Aside0 (laws_FnPages.l1 kq l0 l1 t356 t357 t358 t361 x10_4 x11_2 x12_4 = some r) ∧ Aside0 (kq ≤ kj15) ∧ Aside0 (Kd.R Kd.string 9 w' w.heap.size (fun _ => True) (.slice Ao12 t356.length co12) t356) ∧ Aside0 (Kd.S (Kd.slice 9 Kd.string) 22 w' w.heap.size (fun k_ => some k_ ≠ ((.slice Ao12 t356.length co12) : Value).ownBlock) (.slice Ao17 t361.length co17) t361) ∧ Aside0 (Below w.heap.size w w'))
            case atStart => exact ⟨(x10_2), (1), sZ, sZ, H', ⟨Nat.le_refl _⟩, ⟨Kd.rZ HO_5.out⟩, ⟨by (with_reducible repeat (first | apply Kd.S_alloc | apply Kd.S_drewN | apply Kd.S_drew)); exact HO_8.out⟩, ⟨bZ⟩⟩
            case round =>
             as_aux_lemma =>
             clear H'; (try clear c1); (try clear c2); (try clear p2); (try clear c3); (try clear p3); (try clear q3); (try clear hx3); (try clear qi3); (try clear c4); (try clear c5); (try clear p6); (try clear c7); (try clear c14); (try clear c14b0); (try clear c14b1); (try clear c15); (try clear c15b0); (try clear c18); (try clear c18b0); (try clear c19); (try clear c19b0); (try clear c19b1); (try clear c20); (try clear c20b0); (try clear c21); (try clear c21b0); (try clear c21b1); (try clear c22); (try clear c22b0); (try clear c22b1); (try clear c23); (try clear c23b0); (try clear c24); (try clear hx365_0); (try clear hx366_0); (try clear hx367_0); (try clear hx368_0); (try clear hx369_0); (try clear p2); (try clear p3); (try clear p365); (try clear p366); (try clear p367); (try clear p368); (try clear p369); (try clear p6); (try clear q3); (try clear q365); (try clear q366); (try clear q367); (try clear q368); (try clear q369)
             obtain ⟨x10_4, x12_4, rfl, rfl, HA, HK4, HO_5, HO_8, HB⟩ := hrel
             cases gk with
             | zero => exact absurd HA.out (by simp [laws_FnPages.l1])
             | succ k4 =>
              have H := HA.out
              clear HA
              simp only [laws_FnPages.l1] at H
              by_cases c25 : 0 ≤ x11_2
              ·rw [if_pos c25] at H
               have c25b0 : decide (0 ≤ x11_2) = true := decide_eq_true c25
               clear c25
               by_cases c26 : x11_2 < (t361.length : Int)
               ·rw [if_pos c26] at H
                have c26b0 : decide (x11_2 < (t361.length : Int)) = true := decide_eq_true c26
                clear c26
                by_cases c27 : x12_4 < ((rd_L1 t361 x11_2).length : Int)
                ·rw [if_pos c27] at H
                 have c27b0 : decide (x12_4 < ((rd_L1 t361 x11_2).length : Int)) = true := decide_eq_true c27
                 clear c27
                 by_cases c28 : x10_4 ≥ (t356.length : Int)
                 ·rw [if_pos c28] at H
                  have c28b0 : decide ((t356.length : Int) ≤ x10_4) = true := decide_eq_true c28
                  clear c28
                  obtain rfl := Option.some.inj H
                  have p370 : 0 ≤ (x11_2 : Int) := oZ
                  have q370 : x11_2 < (t361.length : Int) := oZ
                  obtain ⟨ad370, A370_0, c370_0, e370, hx370_0, hl370_0, hi370_0⟩ := at_L1 (Kd.S_reads' HO_8.out).2.2 x11_2 p370 q370
                  cases e370
                  obtain ⟨ce370, hce370, hMe370, hcc370⟩ := Kd.S_get HO_8.out [] x11_2 p370 (by first | exact q370 | exact oZ | (have e_ := (Kd.S_reads' HO_8.out).1; omega))
                  obtain ⟨ve370_0, rfl, ge370_0⟩ := hMe370
                  have hv370_0 := hcc370 0 _ rfl
                  rw [Nat.add_zero, show ((Kd.slice 9 Kd.string)).sz = 1 from rfl, Nat.mul_one] at hv370_0
                  replace hv370_0 := Option.some.inj (hv370_0.symm.trans hx370_0)
                  rw [hv370_0] at ge370_0
                  have HL370_0 := Aside0.mk (show Kd.R Kd.string 9 _ _ _ _ (rd_L1 t361 x11_2) from ge370_0)
                  clear hv370_0 ge370_0
                  clear hcc370 hce370
                  have HR370_0 := Aside0.mk hi370_0
                  have HC370_0 := Aside0.mk hl370_0
                  clear hi370_0 hl370_0
                  replace p370 := eq_true p370
                  replace q370 := eq_true q370
                  go_wp2
                  repeat (go_quiet (fail); try go_wp2)
                  go_ret
                  exact ⟨eZ, bZ⟩
                 ·rw [if_neg c28] at H
                  have c28b0 : decide ((t356.length : Int) ≤ x10_4) = false := decide_eq_false c28
                  clear c28
                  by_cases c29 : 0 ≤ x12_4
                  ·rw [if_pos c29] at H
                   have c29b0 : decide (0 ≤ x12_4) = true := decide_eq_true c29
                   clear c29
                   by_cases c30 : 0 ≤ x10_4
                   ·rw [if_pos c30] at H
                    have c30b0 : decide (0 ≤ x10_4) = true := decide_eq_true c30
                    clear c30
                    by_cases c31 : x10_4 < (t356.length : Int)
                    ·rw [if_pos c31] at H
                     have c31b0 : decide (x10_4 < (t356.length : Int)) = true := decide_eq_true c31
                     clear c31
                     by_cases c32 : (rdOf ByteArray.empty (rd_L1 t361 x11_2) x12_4).toList = (rdOf ByteArray.empty t356 x10_4).toList
                     ·rw [if_pos c32] at H
                      have c32b0 : ((rdOf ByteArray.empty (rd_L1 t361 x11_2) x12_4).toList == (rdOf ByteArray.empty t356 x10_4).toList) = true := beq_iff_eq.mpr c32
                      have c32b1 : ((rdOf ByteArray.empty (rd_L1 t361 x11_2) x12_4).toList != (rdOf ByteArray.empty t356 x10_4).toList) = false := bne_eq_false_iff_eq.mpr c32
                      clear c32
                      have H' := Aside0.mk H
                      clear H
                      have p370 : 0 ≤ (x11_2 : Int) := oZ
                      have q370 : x11_2 < (t361.length : Int) := oZ
                      obtain ⟨ad370, A370_0, c370_0, e370, hx370_0, hl370_0, hi370_0⟩ := at_L1 (Kd.S_reads' HO_8.out).2.2 x11_2 p370 q370
                      cases e370
                      obtain ⟨ce370, hce370, hMe370, hcc370⟩ := Kd.S_get HO_8.out [] x11_2 p370 (by first | exact q370 | exact oZ | (have e_ := (Kd.S_reads' HO_8.out).1; omega))
                      obtain ⟨ve370_0, rfl, ge370_0⟩ := hMe370
                      have hv370_0 := hcc370 0 _ rfl
                      rw [Nat.add_zero, show ((Kd.slice 9 Kd.string)).sz = 1 from rfl, Nat.mul_one] at hv370_0
                      replace hv370_0 := Option.some.inj (hv370_0.symm.trans hx370_0)
                      rw [hv370_0] at ge370_0
                      have HL370_0 := Aside0.mk (show Kd.R Kd.string 9 _ _ _ _ (rd_L1 t361 x11_2) from ge370_0)
                      clear hv370_0 ge370_0
                      clear hcc370 hce370
                      have HR370_0 := Aside0.mk hi370_0
                      have HC370_0 := Aside0.mk hl370_0
                      clear hi370_0 hl370_0
                      replace p370 := eq_true p370
                      replace q370 := eq_true q370
                      have p371 : 0 ≤ (x11_2 : Int) := oZ
                      have q371 : x11_2 < (t361.length : Int) := oZ
                      obtain ⟨ad371, A371_0, c371_0, e371, hx371_0, hl371_0, hi371_0⟩ := at_L1 (Kd.S_reads' HO_8.out).2.2 x11_2 p371 q371
                      obtain rfl : ad370 = ad371 := (by injection e371)
                      obtain ⟨ce371, hce371, hMe371, hcc371⟩ := Kd.S_get HO_8.out [] x11_2 p371 (by first | exact q371 | exact oZ | (have e_ := (Kd.S_reads' HO_8.out).1; omega))
                      obtain ⟨ve371_0, rfl, ge371_0⟩ := hMe371
                      have hv371_0 := hcc371 0 _ rfl
                      rw [Nat.add_zero, show ((Kd.slice 9 Kd.string)).sz = 1 from rfl, Nat.mul_one] at hv371_0
                      replace hv371_0 := Option.some.inj (hv371_0.symm.trans hx371_0)
                      rw [hv371_0] at ge371_0
                      have HL371_0 := Aside0.mk (show Kd.R Kd.string 9 _ _ _ _ (rd_L1 t361 x11_2) from ge371_0)
                      clear hv371_0 ge371_0
                      clear hcc371 hce371
                      have HR371_0 := Aside0.mk hi371_0
                      have HC371_0 := Aside0.mk hl371_0
                      clear hi371_0 hl371_0
                      replace p371 := eq_true p371
                      replace q371 := eq_true q371
                      have ea_ := Option.some.inj (hx370_0.symm.trans hx371_0)
                      injection ea_ with ea_ en_ ec_
                      subst ea_
                      subst ec_
                      clear en_
                      have p372 : 0 ≤ (x12_4 : Int) := oZ
                      have q372 : x12_4 < ((rd_L1 t361 x11_2).length : Int) := oZ
                      obtain ⟨ad372, e372, hx372_0⟩ := Kd.at_string (by repeat (first | (with_reducible exact HR371_0.out) | (with_reducible refine Kd.C_alloc ?_ _) | (with_reducible refine Kd.C_drewN ?_ _) | (with_reducible refine Kd.C_drew ?_) | exact HR371_0.out)) x12_4 p372 q372
                      cases e372
                      replace p372 := eq_true p372
                      replace q372 := eq_true q372
                      have p373 : 0 ≤ (x10_4 : Int) := oZ
                      have q373 : x10_4 < (t356.length : Int) := oZ
                      obtain ⟨ad373, e373, hx373_0⟩ := Kd.at_string (Kd.R_reads' HO_5.out).2.2 x10_4 p373 q373
                      cases e373
                      replace p373 := eq_true p373
                      replace q373 := eq_true q373
                      go_wp2
                      repeat (go_quiet (fail); try go_wp2)
                      go_roundg k4
                      case measure => have := HJ2.out; have := HK2.out; have := HJ15.out; have := HK4.out; omega
                      case rel => exact ⟨(wrap64 (x10_4 + 1)), (wrap64 (x12_4 + 1)), sZ, sZ, H', ⟨by have := HJ2.out; have := HK2.out; have := HJ15.out; have := HK4.out; omega⟩, ⟨Kd.rZ HO_5.out⟩, ⟨by (with_reducible repeat (first | apply Kd.S_alloc | apply Kd.S_drewN | apply Kd.S_drew)); exact HO_8.out⟩, ⟨bZ⟩⟩
                     ·rw [if_neg c32] at H
                      have c32b0 : ((rdOf ByteArray.empty (rd_L1 t361 x11_2) x12_4).toList == (rdOf ByteArray.empty t356 x10_4).toList) = false := beq_eq_false_iff_ne.mpr c32
                      have c32b1 : ((rdOf ByteArray.empty (rd_L1 t361 x11_2) x12_4).toList != (rdOf ByteArray.empty t356 x10_4).toList) = true := bne_iff_ne.mpr c32
                      obtain rfl := Option.some.inj H
                      have p370 : 0 ≤ (x11_2 : Int) := oZ
                      have q370 : x11_2 < (t361.length : Int) := oZ
                      obtain ⟨ad370, A370_0, c370_0, e370, hx370_0, hl370_0, hi370_0⟩ := at_L1 (Kd.S_reads' HO_8.out).2.2 x11_2 p370 q370
                      cases e370
                      obtain ⟨ce370, hce370, hMe370, hcc370⟩ := Kd.S_get HO_8.out [] x11_2 p370 (by first | exact q370 | exact oZ | (have e_ := (Kd.S_reads' HO_8.out).1; omega))
                      obtain ⟨ve370_0, rfl, ge370_0⟩ := hMe370
                      have hv370_0 := hcc370 0 _ rfl
                      rw [Nat.add_zero, show ((Kd.slice 9 Kd.string)).sz = 1 from rfl, Nat.mul_one] at hv370_0
                      replace hv370_0 := Option.some.inj (hv370_0.symm.trans hx370_0)
                      rw [hv370_0] at ge370_0
                      have HL370_0 := Aside0.mk (show Kd.R Kd.string 9 _ _ _ _ (rd_L1 t361 x11_2) from ge370_0)
                      clear hv370_0 ge370_0
                      clear hcc370 hce370
                      have HR370_0 := Aside0.mk hi370_0
                      have HC370_0 := Aside0.mk hl370_0
                      clear hi370_0 hl370_0
                      replace p370 := eq_true p370
                      replace q370 := eq_true q370
                      have p371 : 0 ≤ (x11_2 : Int) := oZ
                      have q371 : x11_2 < (t361.length : Int) := oZ
                      obtain ⟨ad371, A371_0, c371_0, e371, hx371_0, hl371_0, hi371_0⟩ := at_L1 (Kd.S_reads' HO_8.out).2.2 x11_2 p371 q371
                      obtain rfl : ad370 = ad371 := (by injection e371)
                      obtain ⟨ce371, hce371, hMe371, hcc371⟩ := Kd.S_get HO_8.out [] x11_2 p371 (by first | exact q371 | exact oZ | (have e_ := (Kd.S_reads' HO_8.out).1; omega))
                      obtain ⟨ve371_0, rfl, ge371_0⟩ := hMe371
                      have hv371_0 := hcc371 0 _ rfl
                      rw [Nat.add_zero, show ((Kd.slice 9 Kd.string)).sz = 1 from rfl, Nat.mul_one] at hv371_0
                      replace hv371_0 := Option.some.inj (hv371_0.symm.trans hx371_0)
                      rw [hv371_0] at ge371_0
                      have HL371_0 := Aside0.mk (show Kd.R Kd.string 9 _ _ _ _ (rd_L1 t361 x11_2) from ge371_0)
                      clear hv371_0 ge371_0
                      clear hcc371 hce371
                      have HR371_0 := Aside0.mk hi371_0
                      have HC371_0 := Aside0.mk hl371_0
                      clear hi371_0 hl371_0
                      replace p371 := eq_true p371
                      replace q371 := eq_true q371
                      have ea_ := Option.some.inj (hx370_0.symm.trans hx371_0)
                      injection ea_ with ea_ en_ ec_
                      subst ea_
                      subst ec_
                      clear en_
                      have p372 : 0 ≤ (x12_4 : Int) := oZ
                      have q372 : x12_4 < ((rd_L1 t361 x11_2).length : Int) := oZ
                      obtain ⟨ad372, e372, hx372_0⟩ := Kd.at_string (by repeat (first | (with_reducible exact HR371_0.out) | (with_reducible refine Kd.C_alloc ?_ _) | (with_reducible refine Kd.C_drewN ?_ _) | (with_reducible refine Kd.C_drew ?_) | exact HR371_0.out)) x12_4 p372 q372
                      cases e372
                      replace p372 := eq_true p372
                      replace q372 := eq_true q372
                      have p373 : 0 ≤ (x10_4 : Int) := oZ
                      have q373 : x10_4 < (t356.length : Int) := oZ
                      obtain ⟨ad373, e373, hx373_0⟩ := Kd.at_string (Kd.R_reads' HO_5.out).2.2 x10_4 p373 q373
                      cases e373
                      replace p373 := eq_true p373
                      replace q373 := eq_true q373
                      go_wp2
                      repeat (go_quiet (fail); try go_wp2)
                      go_ret
                      exact ⟨eZ, bZ⟩
                    ·rw [if_neg c31] at H
                     exact absurd H (by simp)
                   ·rw [if_neg c30] at H
                    exact absurd H (by simp)
                  ·rw [if_neg c29] at H
                   exact absurd H (by simp)
                ·rw [if_neg c27] at H
                 have c27b0 : decide (x12_4 < ((rd_L1 t361 x11_2).length : Int)) = false := decide_eq_false c27
                 clear c27
                 have H' := Aside0.mk H
                 clear H
                 have p370 : 0 ≤ (x11_2 : Int) := oZ
                 have q370 : x11_2 < (t361.length : Int) := oZ
                 obtain ⟨ad370, A370_0, c370_0, e370, hx370_0, hl370_0, hi370_0⟩ := at_L1 (Kd.S_reads' HO_8.out).2.2 x11_2 p370 q370
                 cases e370
                 obtain ⟨ce370, hce370, hMe370, hcc370⟩ := Kd.S_get HO_8.out [] x11_2 p370 (by first | exact q370 | exact oZ | (have e_ := (Kd.S_reads' HO_8.out).1; omega))
                 obtain ⟨ve370_0, rfl, ge370_0⟩ := hMe370
                 have hv370_0 := hcc370 0 _ rfl
                 rw [Nat.add_zero, show ((Kd.slice 9 Kd.string)).sz = 1 from rfl, Nat.mul_one] at hv370_0
                 replace hv370_0 := Option.some.inj (hv370_0.symm.trans hx370_0)
                 rw [hv370_0] at ge370_0
                 have HL370_0 := Aside0.mk (show Kd.R Kd.string 9 _ _ _ _ (rd_L1 t361 x11_2) from ge370_0)
                 clear hv370_0 ge370_0
                 clear hcc370 hce370
                 have HR370_0 := Aside0.mk hi370_0
                 have HC370_0 := Aside0.mk hl370_0
                 clear hi370_0 hl370_0
                 replace p370 := eq_true p370
                 replace q370 := eq_true q370
                 go_wp2
                 repeat (go_quiet (fail); try go_wp2)
                 go_roundg k4
                 case measure => have := HJ2.out; have := HK2.out; have := HJ15.out; have := HK4.out; omega
                 case rel => exact ⟨(x10_4), (wrap64 (x11_2 + 1)), sZ, sZ, H', ⟨by have := HJ2.out; have := HK2.out; have := HJ15.out; have := HK4.out; omega⟩, ⟨Kd.rZ HO_5.out⟩, ⟨by (with_reducible repeat (first | apply Kd.S_alloc | apply Kd.S_drewN | apply Kd.S_drew)); exact HO_8.out⟩, ⟨bZ⟩⟩
               ·rw [if_neg c26] at H
                exact absurd H (by simp)
              ·rw [if_neg c25] at H
               exact absurd H (by simp)
        ·rw [if_neg c15] at H
         have c15b0 : decide (x11_2 < (t361.length : Int)) = false := decide_eq_false c15
         clear c15
         by_cases c33 : x10_2 = (t356.length : Int)
         ·rw [if_pos c33] at H
          have c33b0 : (x10_2 == (t356.length : Int)) = true := beq_iff_eq.mpr c33
          have c33b1 : (x10_2 != (t356.length : Int)) = false := bne_eq_false_iff_eq.mpr c33
          clear c33
          have H' := Aside0.mk H
          clear H
          obtain ⟨Ao34, co34, eo34⟩ := Kd.S_slice HO_8.out
          subst eo34
          go_wp2
          repeat (go_quiet (fail); try go_wp2)
          go_meet
          case rel => exact ⟨_, H', ⟨by have := HJ2.out; have := HK2.out; first | omega | exact Nat.le_refl _⟩, ⟨bZ⟩⟩
         ·rw [if_neg c33] at H
          have c33b0 : (x10_2 == (t356.length : Int)) = false := beq_eq_false_iff_ne.mpr c33
          have c33b1 : (x10_2 != (t356.length : Int)) = true := bne_iff_ne.mpr c33
          obtain rfl := Option.some.inj H
          obtain ⟨Ao35, co35, eo35⟩ := Kd.S_slice HO_8.out
          subst eo35
          go_wp2
          repeat (go_quiet (fail); try go_wp2)
          go_ret
          exact ⟨eZ, bZ⟩
     ·rw [if_neg c14] at H
      have c14b0 : (t362 == 0) = false := beq_eq_false_iff_ne.mpr c14
      have c14b1 : (t362 != 0) = true := bne_iff_ne.mpr c14
      (first | rw [c14b0] | (simp only [i64_w, i32_w]; rw [c14b0]) | skip)
      have H' := Aside0.mk H
      clear H
      go_wp2
      repeat (go_quiet (fail); try go_wp2)
      go_meet
      case rel => exact ⟨_, H', ⟨by have := HJ2.out; first | omega | exact Nat.le_refl _⟩, ⟨bZ⟩⟩
    case rest =>
     as_aux_lemma =>
     clear HC10; (try clear c1); (try clear c2); (try clear p2); (try clear c3); (try clear p3); (try clear q3); (try clear hx3); (try clear qi3); (try clear c4); (try clear c5); (try clear p6); (try clear c7); (try clear c14); (try clear c14b0); (try clear c14b1); (try clear c15); (try clear c15b0); (try clear c18); (try clear c18b0); (try clear c19); (try clear c19b0); (try clear c19b1); (try clear c20); (try clear c20b0); (try clear c21); (try clear c21b0); (try clear c21b1); (try clear c22); (try clear c22b0); (try clear c22b1); (try clear c23); (try clear c23b0); (try clear c24); (try clear c25); (try clear c25b0); (try clear c26); (try clear c26b0); (try clear c27); (try clear c27b0); (try clear c28); (try clear c28b0); (try clear c29); (try clear c29b0); (try clear c30); (try clear c30b0); (try clear c31); (try clear c31b0); (try clear c32); (try clear c32b0); (try clear c32b1); (try clear c33); (try clear c33b0); (try clear c33b1); (try clear hx365_0); (try clear hx366_0); (try clear hx367_0); (try clear hx368_0); (try clear hx369_0); (try clear hx370_0); (try clear hx371_0); (try clear hx372_0); (try clear hx373_0); (try clear p2); (try clear p3); (try clear p365); (try clear p366); (try clear p367); (try clear p368); (try clear p369); (try clear p370); (try clear p371); (try clear p372); (try clear p373); (try clear p6); (try clear q3); (try clear q365); (try clear q366); (try clear q367); (try clear q368); (try clear q369); (try clear q370); (try clear q371); (try clear q372); (try clear q373)
     obtain ⟨kq, HA, HJ9, HB⟩ := hcut
     cases kq with
     | zero => exact absurd HA.out (by simp [laws_FnPages.j4])
     | succ kj9 =>
      have H := HA.out
      clear HA
      simp only [laws_FnPages.j4] at H
      replace H := Option.bind_eq_some_iff.mp H
      obtain ⟨⟨t374, t375⟩, A360, H⟩ := H
      replace H : ((impl_FindLines.f kj9 t374 t375).bind fun bt378 => (if bt378.2 = 0 then ((laws_b10Rises.f kj9 bt378.1 (t374.length : Int)).bind fun t382 => (if t382 = true then (laws_FnPages.l2 kj9 l0 t374 t375 bt378.1 0) else (some false))) else (laws_FnPages.j6 kj9 l0))) = some r := H
      have A36 := Aside0.mk A360
      clear A360
      replace H := Option.bind_eq_some_iff.mp H
      obtain ⟨⟨t378, t379⟩, A370, H⟩ := H
      replace H : (if t379 = 0 then ((laws_b10Rises.f kj9 t378 (t374.length : Int)).bind fun t382 => (if t382 = true then (laws_FnPages.l2 kj9 l0 t374 t375 t378 0) else (some false))) else (laws_FnPages.j6 kj9 l0)) = some r := H
      have A37 := Aside0.mk A370
      clear A370
      have HC38 := Aside0.mk H
      clear H
      go_upto_if 137 with (first | (go_at_call 16; (with_reducible refine (spec_DrawFindLines.calls kj9 _ _ l1 t374 t375 _ ?side1 ?side2 A36.out).mono ?_); (case side1 => repeat (first | exact (Kd.C_below HR1.out HB.out) | (with_reducible refine Kd.C_alloc ?_ _) | (with_reducible refine Kd.C_drewN ?_ _) | (with_reducible refine Kd.C_drew ?_))); (case side2 => exact HC1.out); rintro e w39 ⟨v376, rfl, ho0, hb⟩; have n0_ := Aside0.mk (Kd.R_lower ho0 bsZ); have n1_ := Aside0.mk (below_step bZ hb); clear HB; have HO377 := n0_; have HB := n1_; clear n0_ n1_; (try clear hb); (try clear hb2); (try clear hk); (try clear hi); (try clear ho0); obtain ⟨Ao40, co40, eo40⟩ := Kd.R_slice HO377.out; subst eo40) | (go_at_call 17; (with_reducible refine (impl_FindLines.calls kj9 _ _ t374 t375 t378 t379 _ ?side1 ?side2 ?side3 A37.out).mono ?_); (case side1 => exact Kd.cZ HO377.out); (case side2 => exact (Kd.R_reads' HO377.out).2.1); (case side3 => exact HSH.out.below (show Below w.heap.size w _ from bZ)); rintro e w41 ⟨v380, rfl, ho0, hb⟩; have n0_ := Aside0.mk (Kd.R_below (Kd.rZ HO377.out) hb); have n1_ := Aside0.mk (Kd.R_lower ho0 bsZ); have n2_ := Aside0.mk (below_step bZ hb); clear HO377; clear HB; have HO377 := n0_; have HO381 := n1_; have HB := n2_; clear n0_ n1_ n2_; (try clear hb); (try clear hb2); (try clear hk); (try clear hi); (try clear ho0)))
      repeat (go_quiet (first | (go_at_call 16; (with_reducible refine (spec_DrawFindLines.calls kj9 _ _ l1 t374 t375 _ ?side1 ?side2 A36.out).mono ?_); (case side1 => repeat (first | exact (Kd.C_below HR1.out HB.out) | (with_reducible refine Kd.C_alloc ?_ _) | (with_reducible refine Kd.C_drewN ?_ _) | (with_reducible refine Kd.C_drew ?_))); (case side2 => exact HC1.out); rintro e w39 ⟨v376, rfl, ho0, hb⟩; have n0_ := Aside0.mk (Kd.R_lower ho0 bsZ); have n1_ := Aside0.mk (below_step bZ hb); clear HB; have HO377 := n0_; have HB := n1_; clear n0_ n1_; (try clear hb); (try clear hb2); (try clear hk); (try clear hi); (try clear ho0); obtain ⟨Ao40, co40, eo40⟩ := Kd.R_slice HO377.out; subst eo40) | (go_at_call 17; (with_reducible refine (impl_FindLines.calls kj9 _ _ t374 t375 t378 t379 _ ?side1 ?side2 ?side3 A37.out).mono ?_); (case side1 => exact Kd.cZ HO377.out); (case side2 => exact (Kd.R_reads' HO377.out).2.1); (case side3 => exact HSH.out.below (show Below w.heap.size w _ from bZ)); rintro e w41 ⟨v380, rfl, ho0, hb⟩; have n0_ := Aside0.mk (Kd.R_below (Kd.rZ HO377.out) hb); have n1_ := Aside0.mk (Kd.R_lower ho0 bsZ); have n2_ := Aside0.mk (below_step bZ hb); clear HO377; clear HB; have HO377 := n0_; have HO381 := n1_; have HB := n2_; clear n0_ n1_ n2_; (try clear hb); (try clear hb2); (try clear hk); (try clear hi); (try clear ho0))); go_upto_if 137 with (first | (go_at_call 16; (with_reducible refine (spec_DrawFindLines.calls kj9 _ _ l1 t374 t375 _ ?side1 ?side2 A36.out).mono ?_); (case side1 => repeat (first | exact (Kd.C_below HR1.out HB.out) | (with_reducible refine Kd.C_alloc ?_ _) | (with_reducible refine Kd.C_drewN ?_ _) | (with_reducible refine Kd.C_drew ?_))); (case side2 => exact HC1.out); rintro e w39 ⟨v376, rfl, ho0, hb⟩; have n0_ := Aside0.mk (Kd.R_lower ho0 bsZ); have n1_ := Aside0.mk (below_step bZ hb); clear HB; have HO377 := n0_; have HB := n1_; clear n0_ n1_; (try clear hb); (try clear hb2); (try clear hk); (try clear hi); (try clear ho0); obtain ⟨Ao40, co40, eo40⟩ := Kd.R_slice HO377.out; subst eo40) | (go_at_call 17; (with_reducible refine (impl_FindLines.calls kj9 _ _ t374 t375 t378 t379 _ ?side1 ?side2 ?side3 A37.out).mono ?_); (case side1 => exact Kd.cZ HO377.out); (case side2 => exact (Kd.R_reads' HO377.out).2.1); (case side3 => exact HSH.out.below (show Below w.heap.size w _ from bZ)); rintro e w41 ⟨v380, rfl, ho0, hb⟩; have n0_ := Aside0.mk (Kd.R_below (Kd.rZ HO377.out) hb); have n1_ := Aside0.mk (Kd.R_lower ho0 bsZ); have n2_ := Aside0.mk (below_step bZ hb); clear HO377; clear HB; have HO377 := n0_; have HO381 := n1_; have HB := n2_; clear n0_ n1_ n2_; (try clear hb); (try clear hb2); (try clear hk); (try clear hi); (try clear ho0))))
      (try simp only [Act.put, List.setIfInBounds_toArray, List.set_cons_zero, List.set_cons_succ])
      go_cut [] (fun wc => ∃ (kq : Nat), Aside0 (laws_FnPages.j6 kq l0 = some r) ∧ Aside0 (kq ≤ kj9) ∧ Aside0 (Below w.heap.size w wc))
      case first =>
       as_aux_lemma =>
       have H := HC38.out
       clear HC38
       by_cases c42 : t379 = 0
       ·rw [if_pos c42] at H
        have c42b0 : (t379 == 0) = true := beq_iff_eq.mpr c42
        have c42b1 : (t379 != 0) = false := bne_eq_false_iff_eq.mpr c42
        clear c42
        (first | rw [c42b0] | (simp only [i64_w, i32_w]; rw [c42b0]) | skip)
        replace H := Option.bind_eq_some_iff.mp H
        obtain ⟨t382, A430, H⟩ := H
        replace H : (if t382 = true then (laws_FnPages.l2 kj9 l0 t374 t375 t378 0) else (some false)) = some r := H
        have A43 := Aside0.mk A430
        clear A430
        by_cases c44 : t382 = true
        ·subst c44
         have H1 : (laws_FnPages.l2 kj9 l0 t374 t375 t378 0) = some r := by rw [if_pos rfl] at H; exact H
         clear H
         have H := H1
         clear H1
         have H' := Aside0.mk H
         clear H
         obtain ⟨Ao45, co45, eo45⟩ := Kd.R_slice HO381.out
         subst eo45
         go_wp2_with (first | (go_at_call 18; (with_reducible refine (laws_b10Rises.calls kj9 _ _ t378 (t374.length : Int) true _ ?side1 ?side2 A43.out).mono ?_); (case side1 => exact Kd.cZ HO381.out); (case side2 => exact (Kd.R_reads' HO381.out).2.1); rintro e w' ⟨rfl, ⟨nd, rfl⟩⟩; (try first | exact ⟨rfl, _, World.drewN_drewN _ _ _⟩ | exact ⟨rfl, _, Eq.trans (World.drewN_drewN _ _ _) (congrArg (World.drewN _) (Nat.add_assoc _ _ _))⟩)))
         repeat (go_quiet (first | (go_at_call 18; (with_reducible refine (laws_b10Rises.calls kj9 _ _ t378 (t374.length : Int) true _ ?side1 ?side2 A43.out).mono ?_); (case side1 => exact Kd.cZ HO381.out); (case side2 => exact (Kd.R_reads' HO381.out).2.1); rintro e w' ⟨rfl, ⟨nd, rfl⟩⟩; (try first | exact ⟨rfl, _, World.drewN_drewN _ _ _⟩ | exact ⟨rfl, _, Eq.trans (World.drewN_drewN _ _ _) (congrArg (World.drewN _) (Nat.add_assoc _ _ _))⟩))); try go_wp2_with (first | (go_at_call 18; (with_reducible refine (laws_b10Rises.calls kj9 _ _ t378 (t374.length : Int) true _ ?side1 ?side2 A43.out).mono ?_); (case side1 => exact Kd.cZ HO381.out); (case side2 => exact (Kd.R_reads' HO381.out).2.1); rintro e w' ⟨rfl, ⟨nd, rfl⟩⟩; (try first | exact ⟨rfl, _, World.drewN_drewN _ _ _⟩ | exact ⟨rfl, _, Eq.trans (World.drewN_drewN _ _ _) (congrArg (World.drewN _) (Nat.add_assoc _ _ _))⟩))))
         go_loopg [17] kj9 (fun kq v17 w' => ∃ (x17_3 : Int), v17 = .int .i64 x17_3 ∧ Aside0 (laws_FnPages.l2 kq l0 t374 t375 t378 x17_3 = some r) ∧ Aside0 (kq ≤ kj9) ∧ Aside0 (Kd.R Kd.string 9 w' w.heap.size (fun _ => True) (.slice Ao40 t374.length co40) t374) ∧ Aside0 (Kd.R (Kd.int .i64) 2 w' w.heap.size (fun _ => True) (.slice Ao45 t378.length co45) t378) ∧ Aside0 (Below w.heap.size w w'))
         case atStart => exact ⟨(0), sZ, H', ⟨Nat.le_refl _⟩, ⟨Kd.rZ HO377.out⟩, ⟨Kd.rZ HO381.out⟩, ⟨bZ⟩⟩
         case round =>
          as_aux_lemma =>
          clear H'; (try clear c1); (try clear c2); (try clear p2); (try clear c3); (try clear p3); (try clear q3); (try clear hx3); (try clear qi3); (try clear c4); (try clear c5); (try clear p6); (try clear c7); (try clear c14); (try clear c14b0); (try clear c14b1); (try clear c15); (try clear c15b0); (try clear c18); (try clear c18b0); (try clear c19); (try clear c19b0); (try clear c19b1); (try clear c20); (try clear c20b0); (try clear c21); (try clear c21b0); (try clear c21b1); (try clear c22); (try clear c22b0); (try clear c22b1); (try clear c23); (try clear c23b0); (try clear c24); (try clear c25); (try clear c25b0); (try clear c26); (try clear c26b0); (try clear c27); (try clear c27b0); (try clear c28); (try clear c28b0); (try clear c29); (try clear c29b0); (try clear c30); (try clear c30b0); (try clear c31); (try clear c31b0); (try clear c32); (try clear c32b0); (try clear c32b1); (try clear c33); (try clear c33b0); (try clear c33b1); (try clear c36); (try clear p36); (try clear q36); (try clear hx36); (try clear qi36); (try clear c37); (try clear p37); (try clear q37); (try clear hx37); (try clear c42); (try clear c42b0); (try clear c42b1); (try clear c44); (try clear hx365_0); (try clear hx366_0); (try clear hx367_0); (try clear hx368_0); (try clear hx369_0); (try clear hx370_0); (try clear hx371_0); (try clear hx372_0); (try clear hx373_0); (try clear p2); (try clear p3); (try clear p365); (try clear p366); (try clear p367); (try clear p368); (try clear p369); (try clear p370); (try clear p371); (try clear p372); (try clear p373); (try clear p6); (try clear q3); (try clear q365); (try clear q366); (try clear q367); (try clear q368); (try clear q369); (try clear q370); (try clear q371); (try clear q372); (try clear q373)
          obtain ⟨x17_3, rfl, HA, HK3, HO_13, HO_15, HB⟩ := hrel
          cases gk with
          | zero => exact absurd HA.out (by simp [laws_FnPages.l2])
          | succ k3 =>
           have H := HA.out
           clear HA
           simp only [laws_FnPages.l2] at H
           by_cases c46 : x17_3 < (t374.length : Int)
           ·rw [if_pos c46] at H
            have c46b0 : decide (x17_3 < (t374.length : Int)) = true := decide_eq_true c46
            clear c46
            by_cases c47 : 0 ≤ x17_3
            ·rw [if_pos c47] at H
             have c47b0 : decide (0 ≤ x17_3) = true := decide_eq_true c47
             clear c47
             by_cases c48 : (rdOf ByteArray.empty t374 x17_3).toList = t375.toList
             ·rw [if_pos c48] at H
              have c48b0 : ((rdOf ByteArray.empty t374 x17_3).toList == t375.toList) = true := beq_iff_eq.mpr c48
              have c48b1 : ((rdOf ByteArray.empty t374 x17_3).toList != t375.toList) = false := bne_eq_false_iff_eq.mpr c48
              clear c48
              replace H := Option.bind_eq_some_iff.mp H
              obtain ⟨t384, A490, H⟩ := H
              replace H : (if t384 = true then (laws_FnPages.l2 k3 l0 t374 t375 t378 (wrap64 (x17_3 + 1))) else (some false)) = some r := H
              have A49 := Aside0.mk A490
              clear A490
              by_cases c50 : t384 = true
              ·subst c50
               have H1 : (laws_FnPages.l2 k3 l0 t374 t375 t378 (wrap64 (x17_3 + 1))) = some r := by rw [if_pos rfl] at H; exact H
               clear H
               have H := H1
               clear H1
               have H' := Aside0.mk H
               clear H
               have p383 : 0 ≤ (x17_3 : Int) := oZ
               have q383 : x17_3 < (t374.length : Int) := oZ
               obtain ⟨ad383, e383, hx383_0⟩ := Kd.at_string (Kd.R_reads' HO_13.out).2.2 x17_3 p383 q383
               cases e383
               replace p383 := eq_true p383
               replace q383 := eq_true q383
               go_wp2_with (first | (go_at_call 19; (with_reducible refine (laws_b10Has.calls k3 _ _ t378 x17_3 true _ ?side1 ?side2 A49.out).mono ?_); (case side1 => exact Kd.cZ HO_15.out); (case side2 => exact (Kd.R_reads' HO_15.out).2.1); rintro e w' ⟨rfl, ⟨nd, rfl⟩⟩; (try first | exact ⟨rfl, _, World.drewN_drewN _ _ _⟩ | exact ⟨rfl, _, Eq.trans (World.drewN_drewN _ _ _) (congrArg (World.drewN _) (Nat.add_assoc _ _ _))⟩)))
               repeat (go_quiet (first | (go_at_call 19; (with_reducible refine (laws_b10Has.calls k3 _ _ t378 x17_3 true _ ?side1 ?side2 A49.out).mono ?_); (case side1 => exact Kd.cZ HO_15.out); (case side2 => exact (Kd.R_reads' HO_15.out).2.1); rintro e w' ⟨rfl, ⟨nd, rfl⟩⟩; (try first | exact ⟨rfl, _, World.drewN_drewN _ _ _⟩ | exact ⟨rfl, _, Eq.trans (World.drewN_drewN _ _ _) (congrArg (World.drewN _) (Nat.add_assoc _ _ _))⟩))); try go_wp2_with (first | (go_at_call 19; (with_reducible refine (laws_b10Has.calls k3 _ _ t378 x17_3 true _ ?side1 ?side2 A49.out).mono ?_); (case side1 => exact Kd.cZ HO_15.out); (case side2 => exact (Kd.R_reads' HO_15.out).2.1); rintro e w' ⟨rfl, ⟨nd, rfl⟩⟩; (try first | exact ⟨rfl, _, World.drewN_drewN _ _ _⟩ | exact ⟨rfl, _, Eq.trans (World.drewN_drewN _ _ _) (congrArg (World.drewN _) (Nat.add_assoc _ _ _))⟩))))
               go_roundg k3
               case measure => have := HJ2.out; have := HJ9.out; have := HK3.out; omega
               case rel => exact ⟨(wrap64 (x17_3 + 1)), sZ, H', ⟨by have := HJ2.out; have := HJ9.out; have := HK3.out; omega⟩, ⟨Kd.rZ HO_13.out⟩, ⟨Kd.rZ HO_15.out⟩, ⟨bZ⟩⟩
              ·replace c50 := Bool.eq_false_iff.mpr c50
               subst c50
               have H1 : (some false) = some r := by rw [if_neg (show ¬ (false = true) by decide)] at H; exact H
               clear H
               have H := H1
               clear H1
               obtain rfl := Option.some.inj H
               have p383 : 0 ≤ (x17_3 : Int) := oZ
               have q383 : x17_3 < (t374.length : Int) := oZ
               obtain ⟨ad383, e383, hx383_0⟩ := Kd.at_string (Kd.R_reads' HO_13.out).2.2 x17_3 p383 q383
               cases e383
               replace p383 := eq_true p383
               replace q383 := eq_true q383
               go_wp2_with (first | (go_at_call 19; (with_reducible refine (laws_b10Has.calls k3 _ _ t378 x17_3 false _ ?side1 ?side2 A49.out).mono ?_); (case side1 => exact Kd.cZ HO_15.out); (case side2 => exact (Kd.R_reads' HO_15.out).2.1); rintro e w' ⟨rfl, ⟨nd, rfl⟩⟩; (try first | exact ⟨rfl, _, World.drewN_drewN _ _ _⟩ | exact ⟨rfl, _, Eq.trans (World.drewN_drewN _ _ _) (congrArg (World.drewN _) (Nat.add_assoc _ _ _))⟩)))
               repeat (go_quiet (first | (go_at_call 19; (with_reducible refine (laws_b10Has.calls k3 _ _ t378 x17_3 false _ ?side1 ?side2 A49.out).mono ?_); (case side1 => exact Kd.cZ HO_15.out); (case side2 => exact (Kd.R_reads' HO_15.out).2.1); rintro e w' ⟨rfl, ⟨nd, rfl⟩⟩; (try first | exact ⟨rfl, _, World.drewN_drewN _ _ _⟩ | exact ⟨rfl, _, Eq.trans (World.drewN_drewN _ _ _) (congrArg (World.drewN _) (Nat.add_assoc _ _ _))⟩))); try go_wp2_with (first | (go_at_call 19; (with_reducible refine (laws_b10Has.calls k3 _ _ t378 x17_3 false _ ?side1 ?side2 A49.out).mono ?_); (case side1 => exact Kd.cZ HO_15.out); (case side2 => exact (Kd.R_reads' HO_15.out).2.1); rintro e w' ⟨rfl, ⟨nd, rfl⟩⟩; (try first | exact ⟨rfl, _, World.drewN_drewN _ _ _⟩ | exact ⟨rfl, _, Eq.trans (World.drewN_drewN _ _ _) (congrArg (World.drewN _) (Nat.add_assoc _ _ _))⟩))))
               go_ret
               exact ⟨eZ, bZ⟩
             ·rw [if_neg c48] at H
              have c48b0 : ((rdOf ByteArray.empty t374 x17_3).toList == t375.toList) = false := beq_eq_false_iff_ne.mpr c48
              have c48b1 : ((rdOf ByteArray.empty t374 x17_3).toList != t375.toList) = true := bne_iff_ne.mpr c48
              have H' := Aside0.mk H
              clear H
              have p383 : 0 ≤ (x17_3 : Int) := oZ
              have q383 : x17_3 < (t374.length : Int) := oZ
              obtain ⟨ad383, e383, hx383_0⟩ := Kd.at_string (Kd.R_reads' HO_13.out).2.2 x17_3 p383 q383
              cases e383
              replace p383 := eq_true p383
              replace q383 := eq_true q383
              go_wp2
              repeat (go_quiet (fail); try go_wp2)
              go_roundg k3
              case measure => have := HJ2.out; have := HJ9.out; have := HK3.out; omega
              case rel => exact ⟨(wrap64 (x17_3 + 1)), sZ, H', ⟨by have := HJ2.out; have := HJ9.out; have := HK3.out; omega⟩, ⟨Kd.rZ HO_13.out⟩, ⟨Kd.rZ HO_15.out⟩, ⟨bZ⟩⟩
            ·rw [if_neg c47] at H
             exact absurd H (by simp)
           ·rw [if_neg c46] at H
            have c46b0 : decide (x17_3 < (t374.length : Int)) = false := decide_eq_false c46
            clear c46
            have H' := Aside0.mk H
            clear H
            go_wp2
            repeat (go_quiet (fail); try go_wp2)
            go_meet
            case rel => exact ⟨_, H', ⟨by have := HJ2.out; have := HJ9.out; have := HK3.out; first | omega | exact Nat.le_refl _⟩, ⟨bZ⟩⟩
        ·replace c44 := Bool.eq_false_iff.mpr c44
         subst c44
         have H1 : (some false) = some r := by rw [if_neg (show ¬ (false = true) by decide)] at H; exact H
         clear H
         have H := H1
         clear H1
         obtain rfl := Option.some.inj H
         obtain ⟨Ao51, co51, eo51⟩ := Kd.R_slice HO381.out
         subst eo51
         go_wp2_with (first | (go_at_call 18; (with_reducible refine (laws_b10Rises.calls kj9 _ _ t378 (t374.length : Int) false _ ?side1 ?side2 A43.out).mono ?_); (case side1 => exact Kd.cZ HO381.out); (case side2 => exact (Kd.R_reads' HO381.out).2.1); rintro e w' ⟨rfl, ⟨nd, rfl⟩⟩; (try first | exact ⟨rfl, _, World.drewN_drewN _ _ _⟩ | exact ⟨rfl, _, Eq.trans (World.drewN_drewN _ _ _) (congrArg (World.drewN _) (Nat.add_assoc _ _ _))⟩)))
         repeat (go_quiet (first | (go_at_call 18; (with_reducible refine (laws_b10Rises.calls kj9 _ _ t378 (t374.length : Int) false _ ?side1 ?side2 A43.out).mono ?_); (case side1 => exact Kd.cZ HO381.out); (case side2 => exact (Kd.R_reads' HO381.out).2.1); rintro e w' ⟨rfl, ⟨nd, rfl⟩⟩; (try first | exact ⟨rfl, _, World.drewN_drewN _ _ _⟩ | exact ⟨rfl, _, Eq.trans (World.drewN_drewN _ _ _) (congrArg (World.drewN _) (Nat.add_assoc _ _ _))⟩))); try go_wp2_with (first | (go_at_call 18; (with_reducible refine (laws_b10Rises.calls kj9 _ _ t378 (t374.length : Int) false _ ?side1 ?side2 A43.out).mono ?_); (case side1 => exact Kd.cZ HO381.out); (case side2 => exact (Kd.R_reads' HO381.out).2.1); rintro e w' ⟨rfl, ⟨nd, rfl⟩⟩; (try first | exact ⟨rfl, _, World.drewN_drewN _ _ _⟩ | exact ⟨rfl, _, Eq.trans (World.drewN_drewN _ _ _) (congrArg (World.drewN _) (Nat.add_assoc _ _ _))⟩))))
         go_ret
         exact ⟨eZ, bZ⟩
       ·rw [if_neg c42] at H
        have c42b0 : (t379 == 0) = false := beq_eq_false_iff_ne.mpr c42
        have c42b1 : (t379 != 0) = true := bne_iff_ne.mpr c42
        (first | rw [c42b0] | (simp only [i64_w, i32_w]; rw [c42b0]) | skip)
        have H' := Aside0.mk H
        clear H
        go_wp2
        repeat (go_quiet (fail); try go_wp2)
        go_meet
        case rel => exact ⟨_, H', ⟨by have := HJ2.out; have := HJ9.out; first | omega | exact Nat.le_refl _⟩, ⟨bZ⟩⟩
      case rest =>
       as_aux_lemma =>
       clear HC38; (try clear c1); (try clear c2); (try clear p2); (try clear c3); (try clear p3); (try clear q3); (try clear hx3); (try clear qi3); (try clear c4); (try clear c5); (try clear p6); (try clear c7); (try clear c14); (try clear c14b0); (try clear c14b1); (try clear c15); (try clear c15b0); (try clear c18); (try clear c18b0); (try clear c19); (try clear c19b0); (try clear c19b1); (try clear c20); (try clear c20b0); (try clear c21); (try clear c21b0); (try clear c21b1); (try clear c22); (try clear c22b0); (try clear c22b1); (try clear c23); (try clear c23b0); (try clear c24); (try clear c25); (try clear c25b0); (try clear c26); (try clear c26b0); (try clear c27); (try clear c27b0); (try clear c28); (try clear c28b0); (try clear c29); (try clear c29b0); (try clear c30); (try clear c30b0); (try clear c31); (try clear c31b0); (try clear c32); (try clear c32b0); (try clear c32b1); (try clear c33); (try clear c33b0); (try clear c33b1); (try clear c36); (try clear p36); (try clear q36); (try clear hx36); (try clear qi36); (try clear c37); (try clear p37); (try clear q37); (try clear hx37); (try clear p38); (try clear q38); (try clear hx38); (try clear c42); (try clear c42b0); (try clear c42b1); (try clear c44); (try clear c46); (try clear c46b0); (try clear c47); (try clear c47b0); (try clear c48); (try clear c48b0); (try clear c48b1); (try clear c50); (try clear hx365_0); (try clear hx366_0); (try clear hx367_0); (try clear hx368_0); (try clear hx369_0); (try clear hx370_0); (try clear hx371_0); (try clear hx372_0); (try clear hx373_0); (try clear hx383_0); (try clear p2); (try clear p3); (try clear p36); (try clear p365); (try clear p366); (try clear p367); (try clear p368); (try clear p369); (try clear p37); (try clear p370); (try clear p371); (try clear p372); (try clear p373); (try clear p383); (try clear p6); (try clear q3); (try clear q36); (try clear q365); (try clear q366); (try clear q367); (try clear q368); (try clear q369); (try clear q37); (try clear q370); (try clear q371); (try clear q372); (try clear q373); (try clear q383)
       obtain ⟨kq, HA, HJ37, HB⟩ := hcut
       cases kq with
       | zero => exact absurd HA.out (by simp [laws_FnPages.j6])
       | succ kj37 =>
        have H := HA.out
        clear HA
        simp only [laws_FnPages.j6] at H
        replace H := Option.bind_eq_some_iff.mp H
        obtain ⟨⟨t385, t386⟩, A520, H⟩ := H
        replace H : ((impl_BarLines.f kj37 t385 t386).bind fun bt389 => (if bt389.2 = 0 then (if (bt389.1.length : Int) = (t385.length : Int) then (laws_FnPages.l3 kj37 t385 t386 bt389.1 0) else (some false)) else (some ((bt389.1.length : Int) == 0)))) = some r := H
        have A52 := Aside0.mk A520
        clear A520
        replace H := Option.bind_eq_some_iff.mp H
        obtain ⟨⟨t389, t390⟩, A530, H⟩ := H
        replace H : (if t390 = 0 then (if (t389.length : Int) = (t385.length : Int) then (laws_FnPages.l3 kj37 t385 t386 t389 0) else (some false)) else (some ((t389.length : Int) == 0))) = some r := H
        have A53 := Aside0.mk A530
        clear A530
        by_cases c54 : t390 = 0
        ·rw [if_pos c54] at H
         have c54b0 : (t390 == 0) = true := beq_iff_eq.mpr c54
         have c54b1 : (t390 != 0) = false := bne_eq_false_iff_eq.mpr c54
         clear c54
         by_cases c55 : (t389.length : Int) = (t385.length : Int)
         ·rw [if_pos c55] at H
          have c55b0 : ((t389.length : Int) == (t385.length : Int)) = true := beq_iff_eq.mpr c55
          have c55b1 : ((t389.length : Int) != (t385.length : Int)) = false := bne_eq_false_iff_eq.mpr c55
          have c55b2 : (t389.length == t385.length) = true := by first | simpa using c55 | (simp at c55 ⊢; omega)
          clear c55
          have H' := Aside0.mk H
          clear H
          go_wp2_with (first | (go_at_call 20; (with_reducible refine (spec_DrawBarLines.calls kj37 _ _ l0 t385 t386 _ ?side1 ?side2 A52.out).mono ?_); (case side1 => repeat (first | exact (Kd.C_below HR0.out HB.out) | (with_reducible refine Kd.C_alloc ?_ _) | (with_reducible refine Kd.C_drewN ?_ _) | (with_reducible refine Kd.C_drew ?_))); (case side2 => exact HC0.out); rintro e w56 ⟨v387, rfl, ho0, hb⟩; have n0_ := Aside0.mk (Kd.R_lower ho0 bsZ); have n1_ := Aside0.mk (below_step bZ hb); clear HB; have HO388 := n0_; have HB := n1_; clear n0_ n1_; (try clear hb); (try clear hb2); (try clear hk); (try clear hi); (try clear ho0); obtain ⟨Ao57, co57, eo57⟩ := Kd.R_slice HO388.out; subst eo57) | (go_at_call 21; (with_reducible refine (impl_BarLines.calls kj37 _ _ t385 t386 t389 t390 _ ?side1 ?side2 A53.out).mono ?_); (case side1 => exact Kd.cZ HO388.out); (case side2 => exact (Kd.R_reads' HO388.out).2.1); rintro e w58 ⟨v391, rfl, ho0, hb⟩; have n0_ := Aside0.mk (Kd.R_below (Kd.rZ HO388.out) hb); have n1_ := Aside0.mk (Kd.R_lower ho0 bsZ); have n2_ := Aside0.mk (below_step bZ hb); clear HO388; clear HB; have HO388 := n0_; have HO392 := n1_; have HB := n2_; clear n0_ n1_ n2_; (try clear hb); (try clear hb2); (try clear hk); (try clear hi); (try clear ho0); obtain ⟨Ao59, co59, eo59⟩ := Kd.R_slice HO392.out; subst eo59))
          repeat (go_quiet (first | (go_at_call 20; (with_reducible refine (spec_DrawBarLines.calls kj37 _ _ l0 t385 t386 _ ?side1 ?side2 A52.out).mono ?_); (case side1 => repeat (first | exact (Kd.C_below HR0.out HB.out) | (with_reducible refine Kd.C_alloc ?_ _) | (with_reducible refine Kd.C_drewN ?_ _) | (with_reducible refine Kd.C_drew ?_))); (case side2 => exact HC0.out); rintro e w56 ⟨v387, rfl, ho0, hb⟩; have n0_ := Aside0.mk (Kd.R_lower ho0 bsZ); have n1_ := Aside0.mk (below_step bZ hb); clear HB; have HO388 := n0_; have HB := n1_; clear n0_ n1_; (try clear hb); (try clear hb2); (try clear hk); (try clear hi); (try clear ho0); obtain ⟨Ao57, co57, eo57⟩ := Kd.R_slice HO388.out; subst eo57) | (go_at_call 21; (with_reducible refine (impl_BarLines.calls kj37 _ _ t385 t386 t389 t390 _ ?side1 ?side2 A53.out).mono ?_); (case side1 => exact Kd.cZ HO388.out); (case side2 => exact (Kd.R_reads' HO388.out).2.1); rintro e w58 ⟨v391, rfl, ho0, hb⟩; have n0_ := Aside0.mk (Kd.R_below (Kd.rZ HO388.out) hb); have n1_ := Aside0.mk (Kd.R_lower ho0 bsZ); have n2_ := Aside0.mk (below_step bZ hb); clear HO388; clear HB; have HO388 := n0_; have HO392 := n1_; have HB := n2_; clear n0_ n1_ n2_; (try clear hb); (try clear hb2); (try clear hk); (try clear hi); (try clear ho0); obtain ⟨Ao59, co59, eo59⟩ := Kd.R_slice HO392.out; subst eo59)); try go_wp2_with (first | (go_at_call 20; (with_reducible refine (spec_DrawBarLines.calls kj37 _ _ l0 t385 t386 _ ?side1 ?side2 A52.out).mono ?_); (case side1 => repeat (first | exact (Kd.C_below HR0.out HB.out) | (with_reducible refine Kd.C_alloc ?_ _) | (with_reducible refine Kd.C_drewN ?_ _) | (with_reducible refine Kd.C_drew ?_))); (case side2 => exact HC0.out); rintro e w56 ⟨v387, rfl, ho0, hb⟩; have n0_ := Aside0.mk (Kd.R_lower ho0 bsZ); have n1_ := Aside0.mk (below_step bZ hb); clear HB; have HO388 := n0_; have HB := n1_; clear n0_ n1_; (try clear hb); (try clear hb2); (try clear hk); (try clear hi); (try clear ho0); obtain ⟨Ao57, co57, eo57⟩ := Kd.R_slice HO388.out; subst eo57) | (go_at_call 21; (with_reducible refine (impl_BarLines.calls kj37 _ _ t385 t386 t389 t390 _ ?side1 ?side2 A53.out).mono ?_); (case side1 => exact Kd.cZ HO388.out); (case side2 => exact (Kd.R_reads' HO388.out).2.1); rintro e w58 ⟨v391, rfl, ho0, hb⟩; have n0_ := Aside0.mk (Kd.R_below (Kd.rZ HO388.out) hb); have n1_ := Aside0.mk (Kd.R_lower ho0 bsZ); have n2_ := Aside0.mk (below_step bZ hb); clear HO388; clear HB; have HO388 := n0_; have HO392 := n1_; have HB := n2_; clear n0_ n1_ n2_; (try clear hb); (try clear hb2); (try clear hk); (try clear hi); (try clear ho0); obtain ⟨Ao59, co59, eo59⟩ := Kd.R_slice HO392.out; subst eo59)))
          go_loopg [22] kj37 (fun kq v22 w' => ∃ (x22_4 : Int), v22 = .int .i64 x22_4 ∧ Aside0 (laws_FnPages.l3 kq t385 t386 t389 x22_4 = some r) ∧ Aside0 (kq ≤ kj37) ∧ Aside0 (Kd.R (Kd.int .i64) 2 w' w.heap.size (fun _ => True) (.slice Ao57 t385.length co57) t385) ∧ Aside0 (Kd.R Kd.string 9 w' w.heap.size (fun _ => True) (.slice Ao59 t389.length co59) t389) ∧ Aside0 (Below w.heap.size w w'))
          case atStart => exact ⟨(0), sZ, H', ⟨Nat.le_refl _⟩, ⟨Kd.rZ HO388.out⟩, ⟨Kd.rZ HO392.out⟩, ⟨bZ⟩⟩
          case round =>
           as_aux_lemma =>
           clear H'; (try clear c1); (try clear c2); (try clear p2); (try clear c3); (try clear p3); (try clear q3); (try clear hx3); (try clear qi3); (try clear c4); (try clear c5); (try clear p6); (try clear c7); (try clear c14); (try clear c14b0); (try clear c14b1); (try clear c15); (try clear c15b0); (try clear c18); (try clear c18b0); (try clear c19); (try clear c19b0); (try clear c19b1); (try clear c20); (try clear c20b0); (try clear c21); (try clear c21b0); (try clear c21b1); (try clear c22); (try clear c22b0); (try clear c22b1); (try clear c23); (try clear c23b0); (try clear c24); (try clear c25); (try clear c25b0); (try clear c26); (try clear c26b0); (try clear c27); (try clear c27b0); (try clear c28); (try clear c28b0); (try clear c29); (try clear c29b0); (try clear c30); (try clear c30b0); (try clear c31); (try clear c31b0); (try clear c32); (try clear c32b0); (try clear c32b1); (try clear c33); (try clear c33b0); (try clear c33b1); (try clear c36); (try clear p36); (try clear q36); (try clear hx36); (try clear qi36); (try clear c37); (try clear p37); (try clear q37); (try clear hx37); (try clear p38); (try clear q38); (try clear hx38); (try clear c42); (try clear c42b0); (try clear c42b1); (try clear c44); (try clear c46); (try clear c46b0); (try clear c47); (try clear c47b0); (try clear c48); (try clear c48b0); (try clear c48b1); (try clear c50); (try clear c54); (try clear c54b0); (try clear c54b1); (try clear c55); (try clear c55b0); (try clear c55b1); (try clear c55b2); (try clear hx365_0); (try clear hx366_0); (try clear hx367_0); (try clear hx368_0); (try clear hx369_0); (try clear hx370_0); (try clear hx371_0); (try clear hx372_0); (try clear hx373_0); (try clear hx383_0); (try clear p2); (try clear p3); (try clear p36); (try clear p365); (try clear p366); (try clear p367); (try clear p368); (try clear p369); (try clear p37); (try clear p370); (try clear p371); (try clear p372); (try clear p373); (try clear p38); (try clear p383); (try clear p6); (try clear q3); (try clear q36); (try clear q365); (try clear q366); (try clear q367); (try clear q368); (try clear q369); (try clear q37); (try clear q370); (try clear q371); (try clear q372); (try clear q373); (try clear q38); (try clear q383)
           obtain ⟨x22_4, rfl, HA, HK4, HO_18, HO_20, HB⟩ := hrel
           cases gk with
           | zero => exact absurd HA.out (by simp [laws_FnPages.l3])
           | succ k4 =>
            have H := HA.out
            clear HA
            simp only [laws_FnPages.l3] at H
            by_cases c60 : x22_4 < (t385.length : Int)
            ·rw [if_pos c60] at H
             have c60b0 : decide (x22_4 < (t385.length : Int)) = true := decide_eq_true c60
             clear c60
             have H' := Aside0.mk H
             clear H
             go_wp2
             repeat (go_quiet (fail); try go_wp2)
             go_loopg [23] k4 (fun kq v23 w' => ∃ (x23_5 : Int), v23 = .int .i64 x23_5 ∧ Aside0 (laws_FnPages.l4 kq t385 t386 t389 x22_4 x23_5 = some r) ∧ Aside0 (kq ≤ k4) ∧ Aside0 (Kd.R (Kd.int .i64) 2 w' w.heap.size (fun _ => True) (.slice Ao57 t385.length co57) t385) ∧ Aside0 (Kd.R Kd.string 9 w' w.heap.size (fun _ => True) (.slice Ao59 t389.length co59) t389) ∧ Aside0 (Below w.heap.size w w'))
             case atStart => exact ⟨(0), sZ, H', ⟨Nat.le_refl _⟩, ⟨Kd.rZ HO_18.out⟩, ⟨Kd.rZ HO_20.out⟩, ⟨bZ⟩⟩
             case round =>
              as_aux_lemma =>
              clear H'; (try clear c1); (try clear c2); (try clear p2); (try clear c3); (try clear p3); (try clear q3); (try clear hx3); (try clear qi3); (try clear c4); (try clear c5); (try clear c6); (try clear p6); (try clear c7); (try clear c14); (try clear c14b0); (try clear c14b1); (try clear c15); (try clear c15b0); (try clear c18); (try clear c18b0); (try clear c19); (try clear c19b0); (try clear c19b1); (try clear c20); (try clear c20b0); (try clear c21); (try clear c21b0); (try clear c21b1); (try clear c22); (try clear c22b0); (try clear c22b1); (try clear c23); (try clear c23b0); (try clear c24); (try clear c25); (try clear c25b0); (try clear c26); (try clear c26b0); (try clear c27); (try clear c27b0); (try clear c28); (try clear c28b0); (try clear c29); (try clear c29b0); (try clear c30); (try clear c30b0); (try clear c31); (try clear c31b0); (try clear c32); (try clear c32b0); (try clear c32b1); (try clear c33); (try clear c33b0); (try clear c33b1); (try clear c36); (try clear p36); (try clear q36); (try clear hx36); (try clear qi36); (try clear c37); (try clear p37); (try clear q37); (try clear hx37); (try clear p38); (try clear q38); (try clear hx38); (try clear c42); (try clear c42b0); (try clear c42b1); (try clear c44); (try clear c46); (try clear c46b0); (try clear c47); (try clear c47b0); (try clear c48); (try clear c48b0); (try clear c48b1); (try clear c50); (try clear c54); (try clear c54b0); (try clear c54b1); (try clear c55); (try clear c55b0); (try clear c55b1); (try clear c55b2); (try clear c60); (try clear c60b0); (try clear hx365_0); (try clear hx366_0); (try clear hx367_0); (try clear hx368_0); (try clear hx369_0); (try clear hx370_0); (try clear hx371_0); (try clear hx372_0); (try clear hx373_0); (try clear hx383_0); (try clear p2); (try clear p3); (try clear p36); (try clear p365); (try clear p366); (try clear p367); (try clear p368); (try clear p369); (try clear p37); (try clear p370); (try clear p371); (try clear p372); (try clear p373); (try clear p38); (try clear p383); (try clear p6); (try clear q3); (try clear q36); (try clear q365); (try clear q366); (try clear q367); (try clear q368); (try clear q369); (try clear q37); (try clear q370); (try clear q371); (try clear q372); (try clear q373); (try clear q38); (try clear q383)
              obtain ⟨x23_5, rfl, HA, HK5, HO_18, HO_20, HB⟩ := hrel
              cases gk with
              | zero => exact absurd HA.out (by simp [laws_FnPages.l4])
              | succ k5 =>
               have H := HA.out
               clear HA
               simp only [laws_FnPages.l4] at H
               by_cases c61 : x23_5 < (t385.length : Int)
               ·rw [if_pos c61] at H
                have c61b0 : decide (x23_5 < (t385.length : Int)) = true := decide_eq_true c61
                clear c61
                by_cases c62 : 0 ≤ x22_4
                ·rw [if_pos c62] at H
                 have c62b0 : decide (0 ≤ x22_4) = true := decide_eq_true c62
                 clear c62
                 by_cases c63 : x22_4 < (t385.length : Int)
                 ·rw [if_pos c63] at H
                  have c63b0 : decide (x22_4 < (t385.length : Int)) = true := decide_eq_true c63
                  clear c63
                  by_cases c64 : 0 ≤ x23_5
                  ·rw [if_pos c64] at H
                   have c64b0 : decide (0 ≤ x23_5) = true := decide_eq_true c64
                   clear c64
                   by_cases c65 : (rd t385 x22_4) ≤ (rd t385 x23_5)
                   ·rw [if_pos c65] at H
                    have c65b0 : decide ((rd t385 x22_4) ≤ (rd t385 x23_5)) = true := decide_eq_true c65
                    clear c65
                    by_cases c66 : x22_4 < (t389.length : Int)
                    ·rw [if_pos c66] at H
                     have c66b0 : decide (x22_4 < (t389.length : Int)) = true := decide_eq_true c66
                     clear c66
                     by_cases c67 : x23_5 < (t389.length : Int)
                     ·rw [if_pos c67] at H
                      have c67b0 : decide (x23_5 < (t389.length : Int)) = true := decide_eq_true c67
                      clear c67
                      by_cases c68 : ((rdOf ByteArray.empty t389 x22_4).size : Int) > ((rdOf ByteArray.empty t389 x23_5).size : Int)
                      ·rw [if_pos c68] at H
                       have c68b0 : decide (((rdOf ByteArray.empty t389 x23_5).size : Int) < ((rdOf ByteArray.empty t389 x22_4).size : Int)) = true := decide_eq_true c68
                       have c68b1 : decide ((rdOf ByteArray.empty t389 x23_5).size < (rdOf ByteArray.empty t389 x22_4).size) = true := decide_eq_true (Int.ofNat_lt.mp c68)
                       clear c68
                       obtain rfl := Option.some.inj H
                       have p393 : 0 ≤ (x22_4 : Int) := oZ
                       have q393 : x22_4 < (t385.length : Int) := oZ
                       obtain ⟨ad393, e393, hx393_0⟩ := Kd.at_int (Kd.R_reads' HO_18.out).2.2 x22_4 p393 q393
                       cases e393
                       replace p393 := eq_true p393
                       replace q393 := eq_true q393
                       have p394 : 0 ≤ (x23_5 : Int) := oZ
                       have q394 : x23_5 < (t385.length : Int) := oZ
                       obtain ⟨ad394, e394, hx394_0⟩ := Kd.at_int (Kd.R_reads' HO_18.out).2.2 x23_5 p394 q394
                       obtain rfl : ad393 = ad394 := (by injection e394)
                       replace p394 := eq_true p394
                       replace q394 := eq_true q394
                       have p395 : 0 ≤ (x22_4 : Int) := oZ
                       have q395 : x22_4 < (t389.length : Int) := oZ
                       obtain ⟨ad395, e395, hx395_0⟩ := Kd.at_string (Kd.R_reads' HO_20.out).2.2 x22_4 p395 q395
                       cases e395
                       replace p395 := eq_true p395
                       replace q395 := eq_true q395
                       have p396 : 0 ≤ (x23_5 : Int) := oZ
                       have q396 : x23_5 < (t389.length : Int) := oZ
                       obtain ⟨ad396, e396, hx396_0⟩ := Kd.at_string (Kd.R_reads' HO_20.out).2.2 x23_5 p396 q396
                       obtain rfl : ad395 = ad396 := (by injection e396)
                       replace p396 := eq_true p396
                       replace q396 := eq_true q396
                       go_wp2
                       repeat (go_quiet (fail); try go_wp2)
                       go_ret
                       exact ⟨eZ, bZ⟩
                      ·rw [if_neg c68] at H
                       have c68b0 : decide (((rdOf ByteArray.empty t389 x23_5).size : Int) < ((rdOf ByteArray.empty t389 x22_4).size : Int)) = false := decide_eq_false c68
                       have c68b1 : decide ((rdOf ByteArray.empty t389 x23_5).size < (rdOf ByteArray.empty t389 x22_4).size) = false := decide_eq_false (fun h => c68 (Int.ofNat_lt.mpr h))
                       clear c68
                       have H' := Aside0.mk H
                       clear H
                       have p393 : 0 ≤ (x22_4 : Int) := oZ
                       have q393 : x22_4 < (t385.length : Int) := oZ
                       obtain ⟨ad393, e393, hx393_0⟩ := Kd.at_int (Kd.R_reads' HO_18.out).2.2 x22_4 p393 q393
                       cases e393
                       replace p393 := eq_true p393
                       replace q393 := eq_true q393
                       have p394 : 0 ≤ (x23_5 : Int) := oZ
                       have q394 : x23_5 < (t385.length : Int) := oZ
                       obtain ⟨ad394, e394, hx394_0⟩ := Kd.at_int (Kd.R_reads' HO_18.out).2.2 x23_5 p394 q394
                       obtain rfl : ad393 = ad394 := (by injection e394)
                       replace p394 := eq_true p394
                       replace q394 := eq_true q394
                       have p395 : 0 ≤ (x22_4 : Int) := oZ
                       have q395 : x22_4 < (t389.length : Int) := oZ
                       obtain ⟨ad395, e395, hx395_0⟩ := Kd.at_string (Kd.R_reads' HO_20.out).2.2 x22_4 p395 q395
                       cases e395
                       replace p395 := eq_true p395
                       replace q395 := eq_true q395
                       have p396 : 0 ≤ (x23_5 : Int) := oZ
                       have q396 : x23_5 < (t389.length : Int) := oZ
                       obtain ⟨ad396, e396, hx396_0⟩ := Kd.at_string (Kd.R_reads' HO_20.out).2.2 x23_5 p396 q396
                       obtain rfl : ad395 = ad396 := (by injection e396)
                       replace p396 := eq_true p396
                       replace q396 := eq_true q396
                       go_wp2
                       repeat (go_quiet (fail); try go_wp2)
                       go_roundg k5
                       case measure => have := HJ2.out; have := HJ9.out; have := HJ37.out; have := HK4.out; have := HK5.out; omega
                       case rel => exact ⟨(wrap64 (x23_5 + 1)), sZ, H', ⟨by have := HJ2.out; have := HJ9.out; have := HJ37.out; have := HK4.out; have := HK5.out; omega⟩, ⟨Kd.rZ HO_18.out⟩, ⟨Kd.rZ HO_20.out⟩, ⟨bZ⟩⟩
                     ·rw [if_neg c67] at H
                      exact absurd H (by simp)
                    ·rw [if_neg c66] at H
                     exact absurd H (by simp)
                   ·rw [if_neg c65] at H
                    have c65b0 : decide ((rd t385 x22_4) ≤ (rd t385 x23_5)) = false := decide_eq_false c65
                    clear c65
                    have H' := Aside0.mk H
                    clear H
                    have p393 : 0 ≤ (x22_4 : Int) := oZ
                    have q393 : x22_4 < (t385.length : Int) := oZ
                    obtain ⟨ad393, e393, hx393_0⟩ := Kd.at_int (Kd.R_reads' HO_18.out).2.2 x22_4 p393 q393
                    cases e393
                    replace p393 := eq_true p393
                    replace q393 := eq_true q393
                    have p394 : 0 ≤ (x23_5 : Int) := oZ
                    have q394 : x23_5 < (t385.length : Int) := oZ
                    obtain ⟨ad394, e394, hx394_0⟩ := Kd.at_int (Kd.R_reads' HO_18.out).2.2 x23_5 p394 q394
                    obtain rfl : ad393 = ad394 := (by injection e394)
                    replace p394 := eq_true p394
                    replace q394 := eq_true q394
                    go_wp2
                    repeat (go_quiet (fail); try go_wp2)
                    go_roundg k5
                    case measure => have := HJ2.out; have := HJ9.out; have := HJ37.out; have := HK4.out; have := HK5.out; omega
                    case rel => exact ⟨(wrap64 (x23_5 + 1)), sZ, H', ⟨by have := HJ2.out; have := HJ9.out; have := HJ37.out; have := HK4.out; have := HK5.out; omega⟩, ⟨Kd.rZ HO_18.out⟩, ⟨Kd.rZ HO_20.out⟩, ⟨bZ⟩⟩
                  ·rw [if_neg c64] at H
                   exact absurd H (by simp)
                 ·rw [if_neg c63] at H
                  exact absurd H (by simp)
                ·rw [if_neg c62] at H
                 exact absurd H (by simp)
               ·rw [if_neg c61] at H
                have c61b0 : decide (x23_5 < (t385.length : Int)) = false := decide_eq_false c61
                clear c61
                by_cases c69 : 0 ≤ x22_4
                ·rw [if_pos c69] at H
                 have c69b0 : decide (0 ≤ x22_4) = true := decide_eq_true c69
                 clear c69
                 by_cases c70 : x22_4 < (t389.length : Int)
                 ·rw [if_pos c70] at H
                  have c70b0 : decide (x22_4 < (t389.length : Int)) = true := decide_eq_true c70
                  clear c70
                  by_cases c71 : ((rdOf ByteArray.empty t389 x22_4).size : Int) > t386
                  ·rw [if_pos c71] at H
                   have c71b0 : decide (t386 < ((rdOf ByteArray.empty t389 x22_4).size : Int)) = true := decide_eq_true c71
                   clear c71
                   obtain rfl := Option.some.inj H
                   have p397 : 0 ≤ (x22_4 : Int) := oZ
                   have q397 : x22_4 < (t389.length : Int) := oZ
                   obtain ⟨ad397, e397, hx397_0⟩ := Kd.at_string (Kd.R_reads' HO_20.out).2.2 x22_4 p397 q397
                   cases e397
                   replace p397 := eq_true p397
                   replace q397 := eq_true q397
                   go_wp2
                   repeat (go_quiet (fail); try go_wp2)
                   go_ret
                   exact ⟨eZ, bZ⟩
                  ·rw [if_neg c71] at H
                   have c71b0 : decide (t386 < ((rdOf ByteArray.empty t389 x22_4).size : Int)) = false := decide_eq_false c71
                   clear c71
                   have H' := Aside0.mk H
                   clear H
                   have p397 : 0 ≤ (x22_4 : Int) := oZ
                   have q397 : x22_4 < (t389.length : Int) := oZ
                   obtain ⟨ad397, e397, hx397_0⟩ := Kd.at_string (Kd.R_reads' HO_20.out).2.2 x22_4 p397 q397
                   cases e397
                   replace p397 := eq_true p397
                   replace q397 := eq_true q397
                   go_wp2
                   repeat (go_quiet (fail); try go_wp2)
                   go_roundg k5
                   case measure => have := HJ2.out; have := HJ9.out; have := HJ37.out; have := HK4.out; have := HK5.out; omega
                   case rel => exact ⟨(wrap64 (x22_4 + 1)), sZ, H', ⟨by have := HJ2.out; have := HJ9.out; have := HJ37.out; have := HK4.out; have := HK5.out; omega⟩, ⟨Kd.rZ HO_18.out⟩, ⟨Kd.rZ HO_20.out⟩, ⟨bZ⟩⟩
                 ·rw [if_neg c70] at H
                  exact absurd H (by simp)
                ·rw [if_neg c69] at H
                 exact absurd H (by simp)
            ·rw [if_neg c60] at H
             have c60b0 : decide (x22_4 < (t385.length : Int)) = false := decide_eq_false c60
             clear c60
             obtain rfl := Option.some.inj H
             go_wp2
             repeat (go_quiet (fail); try go_wp2)
             go_ret
             exact ⟨eZ, bZ⟩
         ·rw [if_neg c55] at H
          have c55b0 : ((t389.length : Int) == (t385.length : Int)) = false := beq_eq_false_iff_ne.mpr c55
          have c55b1 : ((t389.length : Int) != (t385.length : Int)) = true := bne_iff_ne.mpr c55
          have c55b2 : (t389.length == t385.length) = false := by first | simpa using c55 | (simp at c55 ⊢; omega)
          obtain rfl := Option.some.inj H
          go_wp2_with (first | (go_at_call 20; (with_reducible refine (spec_DrawBarLines.calls kj37 _ _ l0 t385 t386 _ ?side1 ?side2 A52.out).mono ?_); (case side1 => repeat (first | exact (Kd.C_below HR0.out HB.out) | (with_reducible refine Kd.C_alloc ?_ _) | (with_reducible refine Kd.C_drewN ?_ _) | (with_reducible refine Kd.C_drew ?_))); (case side2 => exact HC0.out); rintro e w72 ⟨v387, rfl, ho0, hb⟩; have n0_ := Aside0.mk (Kd.R_lower ho0 bsZ); have n1_ := Aside0.mk (below_step bZ hb); clear HB; have HO388 := n0_; have HB := n1_; clear n0_ n1_; (try clear hb); (try clear hb2); (try clear hk); (try clear hi); (try clear ho0); obtain ⟨Ao73, co73, eo73⟩ := Kd.R_slice HO388.out; subst eo73) | (go_at_call 21; (with_reducible refine (impl_BarLines.calls kj37 _ _ t385 t386 t389 t390 _ ?side1 ?side2 A53.out).mono ?_); (case side1 => exact Kd.cZ HO388.out); (case side2 => exact (Kd.R_reads' HO388.out).2.1); rintro e w74 ⟨v391, rfl, ho0, hb⟩; have n0_ := Aside0.mk (Kd.R_below (Kd.rZ HO388.out) hb); have n1_ := Aside0.mk (Kd.R_lower ho0 bsZ); have n2_ := Aside0.mk (below_step bZ hb); clear HO388; clear HB; have HO388 := n0_; have HO392 := n1_; have HB := n2_; clear n0_ n1_ n2_; (try clear hb); (try clear hb2); (try clear hk); (try clear hi); (try clear ho0); obtain ⟨Ao75, co75, eo75⟩ := Kd.R_slice HO392.out; subst eo75))
          repeat (go_quiet (first | (go_at_call 20; (with_reducible refine (spec_DrawBarLines.calls kj37 _ _ l0 t385 t386 _ ?side1 ?side2 A52.out).mono ?_); (case side1 => repeat (first | exact (Kd.C_below HR0.out HB.out) | (with_reducible refine Kd.C_alloc ?_ _) | (with_reducible refine Kd.C_drewN ?_ _) | (with_reducible refine Kd.C_drew ?_))); (case side2 => exact HC0.out); rintro e w72 ⟨v387, rfl, ho0, hb⟩; have n0_ := Aside0.mk (Kd.R_lower ho0 bsZ); have n1_ := Aside0.mk (below_step bZ hb); clear HB; have HO388 := n0_; have HB := n1_; clear n0_ n1_; (try clear hb); (try clear hb2); (try clear hk); (try clear hi); (try clear ho0); obtain ⟨Ao73, co73, eo73⟩ := Kd.R_slice HO388.out; subst eo73) | (go_at_call 21; (with_reducible refine (impl_BarLines.calls kj37 _ _ t385 t386 t389 t390 _ ?side1 ?side2 A53.out).mono ?_); (case side1 => exact Kd.cZ HO388.out); (case side2 => exact (Kd.R_reads' HO388.out).2.1); rintro e w74 ⟨v391, rfl, ho0, hb⟩; have n0_ := Aside0.mk (Kd.R_below (Kd.rZ HO388.out) hb); have n1_ := Aside0.mk (Kd.R_lower ho0 bsZ); have n2_ := Aside0.mk (below_step bZ hb); clear HO388; clear HB; have HO388 := n0_; have HO392 := n1_; have HB := n2_; clear n0_ n1_ n2_; (try clear hb); (try clear hb2); (try clear hk); (try clear hi); (try clear ho0); obtain ⟨Ao75, co75, eo75⟩ := Kd.R_slice HO392.out; subst eo75)); try go_wp2_with (first | (go_at_call 20; (with_reducible refine (spec_DrawBarLines.calls kj37 _ _ l0 t385 t386 _ ?side1 ?side2 A52.out).mono ?_); (case side1 => repeat (first | exact (Kd.C_below HR0.out HB.out) | (with_reducible refine Kd.C_alloc ?_ _) | (with_reducible refine Kd.C_drewN ?_ _) | (with_reducible refine Kd.C_drew ?_))); (case side2 => exact HC0.out); rintro e w72 ⟨v387, rfl, ho0, hb⟩; have n0_ := Aside0.mk (Kd.R_lower ho0 bsZ); have n1_ := Aside0.mk (below_step bZ hb); clear HB; have HO388 := n0_; have HB := n1_; clear n0_ n1_; (try clear hb); (try clear hb2); (try clear hk); (try clear hi); (try clear ho0); obtain ⟨Ao73, co73, eo73⟩ := Kd.R_slice HO388.out; subst eo73) | (go_at_call 21; (with_reducible refine (impl_BarLines.calls kj37 _ _ t385 t386 t389 t390 _ ?side1 ?side2 A53.out).mono ?_); (case side1 => exact Kd.cZ HO388.out); (case side2 => exact (Kd.R_reads' HO388.out).2.1); rintro e w74 ⟨v391, rfl, ho0, hb⟩; have n0_ := Aside0.mk (Kd.R_below (Kd.rZ HO388.out) hb); have n1_ := Aside0.mk (Kd.R_lower ho0 bsZ); have n2_ := Aside0.mk (below_step bZ hb); clear HO388; clear HB; have HO388 := n0_; have HO392 := n1_; have HB := n2_; clear n0_ n1_ n2_; (try clear hb); (try clear hb2); (try clear hk); (try clear hi); (try clear ho0); obtain ⟨Ao75, co75, eo75⟩ := Kd.R_slice HO392.out; subst eo75)))
          go_ret
          exact ⟨eZ, bZ⟩
        ·rw [if_neg c54] at H
         have c54b0 : (t390 == 0) = false := beq_eq_false_iff_ne.mpr c54
         have c54b1 : (t390 != 0) = true := bne_iff_ne.mpr c54
         obtain rfl := Option.some.inj H
         go_wp2_with (first | (go_at_call 20; (with_reducible refine (spec_DrawBarLines.calls kj37 _ _ l0 t385 t386 _ ?side1 ?side2 A52.out).mono ?_); (case side1 => repeat (first | exact (Kd.C_below HR0.out HB.out) | (with_reducible refine Kd.C_alloc ?_ _) | (with_reducible refine Kd.C_drewN ?_ _) | (with_reducible refine Kd.C_drew ?_))); (case side2 => exact HC0.out); rintro e w76 ⟨v387, rfl, ho0, hb⟩; have n0_ := Aside0.mk (Kd.R_lower ho0 bsZ); have n1_ := Aside0.mk (below_step bZ hb); clear HB; have HO388 := n0_; have HB := n1_; clear n0_ n1_; (try clear hb); (try clear hb2); (try clear hk); (try clear hi); (try clear ho0); obtain ⟨Ao77, co77, eo77⟩ := Kd.R_slice HO388.out; subst eo77) | (go_at_call 21; (with_reducible refine (impl_BarLines.calls kj37 _ _ t385 t386 t389 t390 _ ?side1 ?side2 A53.out).mono ?_); (case side1 => exact Kd.cZ HO388.out); (case side2 => exact (Kd.R_reads' HO388.out).2.1); rintro e w78 ⟨v391, rfl, ho0, hb⟩; have n0_ := Aside0.mk (Kd.R_below (Kd.rZ HO388.out) hb); have n1_ := Aside0.mk (Kd.R_lower ho0 bsZ); have n2_ := Aside0.mk (below_step bZ hb); clear HO388; clear HB; have HO388 := n0_; have HO392 := n1_; have HB := n2_; clear n0_ n1_ n2_; (try clear hb); (try clear hb2); (try clear hk); (try clear hi); (try clear ho0); obtain ⟨Ao79, co79, eo79⟩ := Kd.R_slice HO392.out; subst eo79))
         repeat (go_quiet (first | (go_at_call 20; (with_reducible refine (spec_DrawBarLines.calls kj37 _ _ l0 t385 t386 _ ?side1 ?side2 A52.out).mono ?_); (case side1 => repeat (first | exact (Kd.C_below HR0.out HB.out) | (with_reducible refine Kd.C_alloc ?_ _) | (with_reducible refine Kd.C_drewN ?_ _) | (with_reducible refine Kd.C_drew ?_))); (case side2 => exact HC0.out); rintro e w76 ⟨v387, rfl, ho0, hb⟩; have n0_ := Aside0.mk (Kd.R_lower ho0 bsZ); have n1_ := Aside0.mk (below_step bZ hb); clear HB; have HO388 := n0_; have HB := n1_; clear n0_ n1_; (try clear hb); (try clear hb2); (try clear hk); (try clear hi); (try clear ho0); obtain ⟨Ao77, co77, eo77⟩ := Kd.R_slice HO388.out; subst eo77) | (go_at_call 21; (with_reducible refine (impl_BarLines.calls kj37 _ _ t385 t386 t389 t390 _ ?side1 ?side2 A53.out).mono ?_); (case side1 => exact Kd.cZ HO388.out); (case side2 => exact (Kd.R_reads' HO388.out).2.1); rintro e w78 ⟨v391, rfl, ho0, hb⟩; have n0_ := Aside0.mk (Kd.R_below (Kd.rZ HO388.out) hb); have n1_ := Aside0.mk (Kd.R_lower ho0 bsZ); have n2_ := Aside0.mk (below_step bZ hb); clear HO388; clear HB; have HO388 := n0_; have HO392 := n1_; have HB := n2_; clear n0_ n1_ n2_; (try clear hb); (try clear hb2); (try clear hk); (try clear hi); (try clear ho0); obtain ⟨Ao79, co79, eo79⟩ := Kd.R_slice HO392.out; subst eo79)); try go_wp2_with (first | (go_at_call 20; (with_reducible refine (spec_DrawBarLines.calls kj37 _ _ l0 t385 t386 _ ?side1 ?side2 A52.out).mono ?_); (case side1 => repeat (first | exact (Kd.C_below HR0.out HB.out) | (with_reducible refine Kd.C_alloc ?_ _) | (with_reducible refine Kd.C_drewN ?_ _) | (with_reducible refine Kd.C_drew ?_))); (case side2 => exact HC0.out); rintro e w76 ⟨v387, rfl, ho0, hb⟩; have n0_ := Aside0.mk (Kd.R_lower ho0 bsZ); have n1_ := Aside0.mk (below_step bZ hb); clear HB; have HO388 := n0_; have HB := n1_; clear n0_ n1_; (try clear hb); (try clear hb2); (try clear hk); (try clear hi); (try clear ho0); obtain ⟨Ao77, co77, eo77⟩ := Kd.R_slice HO388.out; subst eo77) | (go_at_call 21; (with_reducible refine (impl_BarLines.calls kj37 _ _ t385 t386 t389 t390 _ ?side1 ?side2 A53.out).mono ?_); (case side1 => exact Kd.cZ HO388.out); (case side2 => exact (Kd.R_reads' HO388.out).2.1); rintro e w78 ⟨v391, rfl, ho0, hb⟩; have n0_ := Aside0.mk (Kd.R_below (Kd.rZ HO388.out) hb); have n1_ := Aside0.mk (Kd.R_lower ho0 bsZ); have n2_ := Aside0.mk (below_step bZ hb); clear HO388; clear HB; have HO388 := n0_; have HO392 := n1_; have HB := n2_; clear n0_ n1_ n2_; (try clear hb); (try clear hb2); (try clear hk); (try clear hi); (try clear ho0); obtain ⟨Ao79, co79, eo79⟩ := Kd.R_slice HO392.out; subst eo79)))
         go_ret
         exact ⟨eZ, bZ⟩
end Go.Proofs.Ytpkcjkfkohmcfaa.XN
end

section
namespace Go.Proofs.Ytpkcjkfkohmcfaa.Open
open Go.ChangeShapes Go.WideShapes Go.RowKit Go.Proofs.YtpkcjkfkohmcfaaW.PrintWords
set_option linter.unusedVariables false
def Opens (P : Program) (t : TypeId) {α : Type} (d : Kd α) (Q : α → Prop) : Prop :=
  P.cellsOf t = d.sz ∧ ∀ (H : Type) (enc : TypeId × Value → H) (w : World) (base : Nat) (spare : Nat → Bool) (held : Bool) (fuel : Nat) (cs : List Value) (x : DataW H × List MemPlace),
    DataW.trod enc P w base spare held fuel t cs = some x → ∃ a : α, d.K w a cs ∧ Q a
theorem Opens.int {P : Program} {t : TypeId} {k : IntKind} (hu : P.underlying t = some (.int k)) (hc : P.cellsOf t = 1) : Opens P t (Kd.int k) (fun n => (Lit.int k n).wf = true) := by
  refine ⟨hc, fun H enc w base spare held fuel cs x h => ?_⟩
  obtain ⟨n, rfl, _, hw⟩ := DataW.trod_int hu h
  exact ⟨n, rfl, hw⟩
theorem Opens.bool {P : Program} {t : TypeId} (hu : P.underlying t = some .bool) (hc : P.cellsOf t = 1) : Opens P t Kd.bool (fun _ => True) := by
  refine ⟨hc, fun H enc w base spare held fuel cs x h => ?_⟩
  obtain ⟨b, rfl, _⟩ := DataW.trod_bool hu h
  exact ⟨b, rfl, trivial⟩
theorem Opens.string {P : Program} {t : TypeId} (hu : P.underlying t = some .string) (hc : P.cellsOf t = 1) : Opens P t Kd.string (fun s => s.size ≤ maxLen) := by
  refine ⟨hc, fun H enc w base spare held fuel cs x h => ?_⟩
  obtain ⟨s, rfl, _, hs⟩ := DataW.trod_string hu h
  exact ⟨s, rfl, hs⟩
theorem choose_list {α : Type} {n : Nat} {p : Nat → α → Prop} (h : ∀ i, i < n → ∃ x, p i x) : ∃ l : List α, l.length = n ∧ ∀ i x, l[i]? = some x → p i x := by
  induction n with
  | zero => exact ⟨[], rfl, fun i x hx => by simp at hx⟩
  | succ n ih =>
    obtain ⟨l, hl, hp⟩ := ih (fun i hi => h i (by omega))
    obtain ⟨x, hx⟩ := h n (by omega)
    refine ⟨l ++ [x], by simp [hl], fun i y hy => ?_⟩
    rcases Nat.lt_or_ge i l.length with hi | hi
    · rw [List.getElem?_append_left hi] at hy
      exact hp i y hy
    · have : i = l.length := by
        have := (List.getElem?_eq_some_iff.1 hy).1
        simp at this
        omega
      subst this
      simp at hy
      subst hy
      rw [hl]
      exact hx
theorem cells?_get {w : World} {base : Nat} {a : Addr} {n : Nat} {cs : List Value} (h : w.cells? base a n = some cs) (i : Nat) (u : Value) (hu : cs[i]? = some u) : w.cell? (a.add i) = some u := by
  unfold World.cells? at h
  split at h
  · have hlen : cs.length = n := by simpa using mapM_some_length h
    have hi : i < n := by
      have := (List.getElem?_eq_some_iff.1 hu).1
      omega
    have := mapM_some_get h i i (by simp [hi])
    rw [hu] at this
    exact this
  · cases h
theorem Opens.slice {P : Program} {t e : TypeId} {α : Type} {d : Kd α} {Q : α → Prop} (hu : P.underlying t = some (.slice e)) (hc : P.cellsOf t = 1) (hd : Opens P e d Q) :
    Opens P t (Kd.slice e d) (fun xs => xs.length ≤ maxLen ∧ ∀ x ∈ xs, Q x) := by
  refine ⟨hc, fun H enc w base spare held fuel cs x h => ?_⟩
  rcases Go.Deep.open_slice hu h with ⟨rfl, _⟩ | ⟨a, len, cap, m, n, D, Pl, rfl, _, hl, hm, hmm, _, hx⟩
  · exact ⟨[], ⟨none, 0, rfl, Nat.le_refl _, rfl, by simp, fun h => absurd h (by simp)⟩, by simp, fun x hx => by simp at hx⟩
  · have hlm : len ≤ m := by rw [hmm]; split <;> omega
    obtain ⟨l, hl1, hp⟩ := choose_list (n := len) (p := fun i (x : α) => ∃ cs', w.cells? base (a.add (i * d.sz)) d.sz = some cs' ∧ d.K w x cs' ∧ Q x) (fun i hi => by
      obtain ⟨cs', h1, h2⟩ := hx i (by omega)
      rw [hd.1] at h1
      obtain ⟨y, hy, hq⟩ := hd.2 H enc w base spare held n cs' _ h2
      exact ⟨y, cs', h1, hy, hq⟩)
    have hmax : (maxLen : Nat) = 9223372036854775807 := by unfold maxLen; omega
    refine ⟨l, ⟨some a, cap, by rw [hl1], by omega, rfl, by omega, fun _ => ⟨a, rfl, fun j p hj => ?_⟩⟩, by omega, fun x hx => ?_⟩
    · obtain ⟨cs', h1, h2, _⟩ := hp j p hj
      refine ⟨cs', d.K_len h2, h2, fun i u hi => ?_⟩
      have := cells?_get h1 i u hi
      rwa [Go.Deep.add_add] at this
    · obtain ⟨i, hi, rfl⟩ := List.mem_iff_getElem.1 hx
      obtain ⟨cs', _, _, h3⟩ := hp i _ (List.getElem?_eq_getElem hi)
      exact h3
def OpensF (P : Program) (fs : List Field) (off : Nat) {α : Type} (d : Kd α) (Q : α → Prop) : Prop :=
  ∀ (H : Type) (enc : TypeId × Value → H) (w : World) (base : Nat) (spare : Nat → Bool) (held : Bool) (n : Nat) (cs : List Value), off + d.sz = cs.length →
    (∀ f ∈ fs, ∃ y, DataW.trod enc P w base spare held n f.type ((cs.drop f.offset).take (P.cellsOf f.type)) = some y) → ∃ a : α, d.K w a (cs.drop off) ∧ Q a
theorem OpensF.one {P : Program} {f : Field} {off : Nat} {α : Type} {d : Kd α} {Q : α → Prop} (ho : f.offset = off) (h : Opens P f.type d Q) : OpensF P [f] off d Q := by
  intro H enc w base spare held n cs hl hf
  obtain ⟨y, hy⟩ := hf f List.mem_cons_self
  rw [ho, h.1, List.take_of_length_le (by rw [List.length_drop]; omega)] at hy
  exact h.2 H enc w base spare held n _ y hy
theorem OpensF.cons {P : Program} {f : Field} {fs : List Field} {off : Nat} {α β : Type} {d1 : Kd α} {d2 : Kd β} {Q1 : α → Prop} {Q2 : β → Prop} (ho : f.offset = off) (h : Opens P f.type d1 Q1) (hs : OpensF P fs (off + d1.sz) d2 Q2) :
    OpensF P (f :: fs) off (Kd.pair d1 d2) (fun x => Q1 x.1 ∧ Q2 x.2) := by
  intro H enc w base spare held n cs hl hf
  have hl' : off + (d1.sz + d2.sz) = cs.length := hl
  obtain ⟨y, hy⟩ := hf f List.mem_cons_self
  rw [ho, h.1] at hy
  obtain ⟨a, ha, qa⟩ := h.2 H enc w base spare held n _ y hy
  obtain ⟨b, hb, qb⟩ := hs H enc w base spare held n cs (by omega) (fun g hg => hf g (List.mem_cons_of_mem _ hg))
  refine ⟨(a, b), ⟨_, _, ?_, ha, hb⟩, qa, qb⟩
  rw [← List.drop_drop, List.take_append_drop]
theorem open_sl {H : Type} {enc : TypeId × Value → H} {P : Program} {W : World} {base B : Nat} {spare : Nat → Bool} {held : Bool} {t e : TypeId} {v : Value} {dd : DataW H} {ps : List MemPlace} {α : Type} {d : Kd α} {Q : α → Prop}
    (hu : P.underlying t = some (.slice e)) (hc : P.cellsOf t = 1) (hd : Opens P e d Q) (hv : Value.okWide P W .any B t v) (h : DataW.Trod enc P W base spare held t v dd ps) :
    ∃ (A : Option Addr) (c : Nat) (l : List α), v = .slice A l.length c ∧ l.length ≤ c ∧ Kd.C d W A l.length l ∧ l.length ≤ maxLen ∧ ∀ x ∈ l, Q x := by
  obtain ⟨a0, len, cap, rfl⟩ := okWide_slice hu hv
  obtain ⟨fuel, hf⟩ := h
  obtain ⟨l, ⟨A, c, he, hl, hC⟩, hm, hq⟩ := (Opens.slice hu hc hd).2 H enc W base spare held fuel _ _ hf
  refine ⟨A, c, l, ?_, hl, hC, hm, hq⟩
  simpa [Value.cells] using he
end Go.Proofs.Ytpkcjkfkohmcfaa.Open
end

section
namespace Go.Proofs.Ytpkcjkfkohmcfaa.XN
open Go.RowKit Go.Proofs.YtpkcjkfkohmcfaaW.PrintWords
def laws_FnPages.Pure : Prop := ∀ (a0 : List Int), ∀ (a1 : List Int), ((a0.length ≤ maxLen ∧ ∀ y2 ∈ a0, (Lit.int .u8 y2).wf = true)) → ((a1.length ≤ maxLen ∧ ∀ y2 ∈ a1, (Lit.int .u8 y2).wf = true)) → ∃ k, laws_FnPages.f k a0 a1 = some true
end Go.Proofs.Ytpkcjkfkohmcfaa.XN
end

section
namespace Go.Proofs.Ytpkcjkfkohmcfaa.EvK
open Go.RowKit Go.Proofs.YtpkcjkfkohmcfaaW.PrintWords
set_option linter.unusedVariables false
theorem w64 {n : Int} (h : -9223372036854775808 ≤ n) (h' : n ≤ 9223372036854775807) : wrap64 n = n := by unfold wrap64; omega
theorem Ev.some {α : Type} {a r : α} (h : a = r) : Ev (fun _ => Option.some a) r := h ▸ Ev.now a
theorem Ev.bind_some {α β : Type} {g : Nat → Option α} {f : Nat → α → Option β} {a : α} {r : β} (h : Ev g a) (k : Ev (fun n => f n a) r) : Ev (fun n => (g n).bind (f n)) r := Ev.bind h k
theorem getD_at {α : Type} (l : List α) (d : α) (i : Nat) (h : i < l.length) : l.getD (i : Int).toNat d = l[i] := by
  simp [List.getD_eq_getElem?_getD, List.getElem?_eq_getElem h]
theorem rd_at (l : List Int) (i : Nat) (h : i < l.length) : rd l (i : Int) = l[i] := getD_at l 0 i h
theorem rdOf_at {α : Type} (l : List α) (d : α) (i : Nat) (h : i < l.length) : rdOf d l (i : Int) = l[i] := getD_at l d i h
def EvP {α : Type} (g : Nat → Option α) (P : α → Prop) : Prop := ∃ r, Ev g r ∧ P r
theorem EvP.now {α : Type} {r : α} {P : α → Prop} (h : P r) : EvP (fun _ => Option.some r) P := ⟨r, Ev.now r, h⟩
theorem EvP.of {α : Type} {g : Nat → Option α} {r : α} {P : α → Prop} (h : Ev g r) (hp : P r) : EvP g P := ⟨r, h, hp⟩
theorem EvP.mono {α : Type} {g : Nat → Option α} {P Q : α → Prop} (h : EvP g P) (hp : ∀ r, P r → Q r) : EvP g Q := by
  obtain ⟨r, h1, h2⟩ := h
  exact ⟨r, h1, hp _ h2⟩
theorem EvP.eq {α : Type} {g : Nat → Option α} {r : α} (h : EvP g (· = r)) : Ev g r := by
  obtain ⟨r', h, rfl⟩ := h
  exact h
theorem EvP.step {α : Type} {g f : Nat → Option α} {P : α → Prop} (h : ∀ k, g (k + 1) = f k) (k : EvP f P) : EvP g P := by
  obtain ⟨r, h1, h2⟩ := k
  exact ⟨r, Ev.step h h1, h2⟩
theorem EvP.bind {α β : Type} {g : Nat → Option α} {f : Nat → α → Option β} {a : α} {P : β → Prop} (h : Ev g a) (k : EvP (fun n => f n a) P) : EvP (fun n => (g n).bind (f n)) P := by
  obtain ⟨r, h1, h2⟩ := k
  exact ⟨r, Ev.bind h h1, h2⟩
theorem EvP.bindP {α β : Type} {g : Nat → Option α} {f : Nat → α → Option β} {Q : α → Prop} {P : β → Prop} (h : EvP g Q) (k : ∀ a, Q a → EvP (fun n => f n a) P) : EvP (fun n => (g n).bind (f n)) P := by
  obtain ⟨a, ha, hq⟩ := h
  exact EvP.bind ha (k a hq)
theorem EvP.rounds {α : Type} {g : Nat → Option α} {r : α} (h : EvP g (· = r)) : ∃ k, g k = Option.some r := Ev.rounds (EvP.eq h)
theorem for_evp {σ ρ : Type} {L : Nat → σ → Int → Option ρ} {Post : ρ → Prop} (n : Nat) (inv : Nat → σ → Prop)
    (step : ∀ (i : Nat) (s : σ), i < n → inv i s → (∀ s', inv (i + 1) s' → EvP (fun k => L k s' ((i : Int) + 1)) Post) → EvP (fun k => L k s i) Post)
    (fin : ∀ s, inv n s → EvP (fun k => L k s n) Post) (s : σ) (h0 : inv 0 s) : EvP (fun k => L k s 0) Post := by
  have key : ∀ (d i : Nat) (s : σ), i + d = n → inv i s → EvP (fun k => L k s i) Post := by
    intro d
    induction d with
    | zero =>
      intro i s hi hs
      obtain rfl : i = n := by omega
      exact fin s hs
    | succ d ih =>
      intro i s hi hs
      refine step i s (by omega) hs (fun s' hs' => ?_)
      simpa using ih (i + 1) s' (by omega) hs'
  simpa using key n 0 s (by omega) h0
theorem take_all {α : Type} {p : α → Prop} {l : List α} {i : Nat} (h : i < l.length) (hs : ∀ x ∈ l.take i, p x) (hx : p l[i]) : ∀ x ∈ l.take (i + 1), p x := by
  rw [List.take_succ_eq_append_getElem h]
  intro x hm
  rcases List.mem_append.1 hm with hm | hm
  · exact hs x hm
  · rw [List.mem_singleton.1 hm]
    exact hx
theorem all_ev {α : Type} {L : Nat → Int → Option Bool} (l : List α) (p : α → Bool) (b : Bool)
    (step : ∀ (i : Nat) (h : i < l.length), p l[i] = true → ∀ P, EvP (fun k => L k ((i : Int) + 1)) P → EvP (fun k => L k i) P)
    (stop : ∀ (i : Nat) (h : i < l.length), p l[i] = false → Ev (fun k => L k i) false)
    (fin : Ev (fun k => L k l.length) b) : Ev (fun k => L k 0) (l.all p && b) := by
  apply EvP.eq
  refine for_evp (L := fun k (_ : Unit) i => L k i) l.length (fun i _ => ∀ x ∈ l.take i, p x = true) ?_ ?_ () (by simp)
  · intro i _ hi hs K
    cases hp : p l[i] with
    | true => exact step i hi hp _ (K () (take_all hi hs hp))
    | false =>
      have e : l.all p = false := by
        rw [List.all_eq_false]
        exact ⟨l[i], List.getElem_mem hi, by simp [hp]⟩
      rw [e]
      exact EvP.of (stop i hi hp) rfl
  · intro _ hs
    have e : l.all p = true := by
      rw [List.all_eq_true]
      simpa using hs
    rw [e]
    exact EvP.of fin rfl
theorem bytes_at_ (s : ByteArray) (i : Nat) (h : i < s.data.toList.length) : bt s (i : Int) = ((s.data.toList[i]).toNat : Int) := by
  have h' : i < s.size := by simpa using h
  unfold bt
  rw [dif_pos (by simpa using h')]
  simp
  rfl
theorem size_len (s : ByteArray) : (s.size : Int) = (s.data.toList.length : Int) := by simp
theorem size_len' (s : ByteArray) : s.size = s.data.toList.length := by simp
end Go.Proofs.Ytpkcjkfkohmcfaa.EvK
end

section
namespace Go.Proofs.Ytpkcjkfkohmcfaa.LinesN
open Go.RowKit Go.Proofs.YtpkcjkfkohmcfaaW.PrintWords Go.Proofs.Ytpkcjkfkohmcfaa.XN Go.Proofs.Ytpkcjkfkohmcfaa.EvK
set_option linter.unusedVariables false
set_option linter.unusedSimpArgs false
def okByte (a b : Int) (c : UInt8) : Bool := decide (a ≤ (c.toNat : Int)) && decide ((c.toNat : Int) ≤ b)
def within (s : ByteArray) (a b : Int) : Bool := s.data.toList.all (okByte a b)
def lineOk (s : ByteArray) : Bool := within s 32 126 && decide ((s.size : Int) ≤ 100)
def repOk (l : List ByteArray) : Bool := l.all lineOk && decide ((l.length : Int) ≤ 200)
theorem bytesWithin_ev (s : ByteArray) (a b : Int) (h : s.size ≤ 1048576) : Ev (fun k => impl_bytesWithin.f k s a b) (within s a b) := by
  unfold impl_bytesWithin.f within
  rw [size_len']  at h
  have := all_ev (L := fun k i => impl_bytesWithin.l0 k s a b (s.size : Int) i) s.data.toList (okByte a b) true ?_ ?_ ?_
  · simpa using this
  · intro i hi hp P K
    simp only [okByte, Bool.and_eq_true, decide_eq_true_eq] at hp
    refine EvP.step (fun k => impl_bytesWithin.l0.eq_2 _ _ _ _ _ k) ?_
    simp only [size_len, if_pos (show (i : Int) < (s.data.toList.length : Int) by omega), if_pos (show (0 : Int) ≤ (i : Int) by omega), bytes_at_ s i hi, if_neg (show ¬ ((s.data.toList[i].toNat : Int) < a) by omega), if_neg (show ¬ ((s.data.toList[i].toNat : Int) > b) by omega), w64 (show -9223372036854775808 ≤ (i : Int) + 1 by omega) (by omega)]
    simpa only [size_len] using K
  · intro i hi hp
    simp only [okByte, Bool.and_eq_false_iff, decide_eq_false_iff_not] at hp
    refine Ev.step (fun k => impl_bytesWithin.l0.eq_2 _ _ _ _ _ k) ?_
    simp only [size_len, if_pos (show (i : Int) < (s.data.toList.length : Int) by omega), if_pos (show (0 : Int) ≤ (i : Int) by omega), bytes_at_ s i hi]
    by_cases h1 : (s.data.toList[i].toNat : Int) < a
    · simp only [if_pos h1]; exact Ev.now _
    · simp only [if_neg h1, if_pos (show (s.data.toList[i].toNat : Int) > b by omega)]; exact Ev.now _
  · refine Ev.step (fun k => impl_bytesWithin.l0.eq_2 _ _ _ _ _ k) ?_
    simp only [size_len, if_neg (show ¬ (s.data.toList.length : Int) < (s.data.toList.length : Int) by omega)]
    exact Ev.now _
theorem impl_line_ev (s : ByteArray) (h : s.size ≤ 1048576) : Ev (fun k => impl_lineValid.f k s) (lineOk s) := by
  unfold impl_lineValid.f lineOk
  by_cases h1 : (s.size : Int) ≤ 100
  · simp only [if_pos h1, h1, decide_true, Bool.and_true]
    exact Ev.bind (bytesWithin_ev s 32 126 h) (Ev.now _)
  · simp only [if_neg h1, h1, decide_false, Bool.and_false]
    exact Ev.now _
theorem impl_rep_ev (l : List ByteArray) (hl : l.length ≤ 1048576) (hs : ∀ x ∈ l, x.size ≤ 1048576) : Ev (fun k => impl_ValidReport.f k l) (repOk l) := by
  unfold impl_ValidReport.f repOk
  by_cases h1 : (l.length : Int) > 200
  · simp only [if_pos h1, show ¬ (l.length : Int) ≤ 200 by omega, decide_false, Bool.and_false]
    exact Ev.now _
  simp only [if_neg h1, show (l.length : Int) ≤ 200 by omega, decide_true]
  refine all_ev (L := fun k i => impl_ValidReport.l0 k l (l.length : Int) i) l lineOk true ?_ ?_ ?_
  · intro i hi hp P K
    have e : rdOf ByteArray.empty l (i : Int) = l[i] := getD_at l ByteArray.empty i hi
    refine EvP.step (fun k => impl_ValidReport.l0.eq_2 _ _ _ k) ?_
    simp only [if_pos (show (i : Int) < (l.length : Int) by omega), if_pos (show (0 : Int) ≤ (i : Int) by omega), e, w64 (show -9223372036854775808 ≤ (i : Int) + 1 by omega) (by omega)]
    refine EvP.bind (impl_line_ev l[i] (hs _ (List.getElem_mem hi))) ?_
    simp only [hp, if_true]
    exact K
  · intro i hi hp
    have e : rdOf ByteArray.empty l (i : Int) = l[i] := getD_at l ByteArray.empty i hi
    refine Ev.step (fun k => impl_ValidReport.l0.eq_2 _ _ _ k) ?_
    simp only [if_pos (show (i : Int) < (l.length : Int) by omega), if_pos (show (0 : Int) ≤ (i : Int) by omega), e]
    refine Ev.bind (impl_line_ev l[i] (hs _ (List.getElem_mem hi))) ?_
    simp only [hp, Bool.false_eq_true, if_false]
    exact Ev.now _
  · refine Ev.step (fun k => impl_ValidReport.l0.eq_2 _ _ _ k) ?_
    simp only [if_neg (show ¬ (l.length : Int) < (l.length : Int) by omega)]
    exact Ev.now _
end Go.Proofs.Ytpkcjkfkohmcfaa.LinesN
end
