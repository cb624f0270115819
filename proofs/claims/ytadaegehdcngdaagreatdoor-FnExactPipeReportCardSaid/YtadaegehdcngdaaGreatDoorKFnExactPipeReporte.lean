/- The law FnExactPipeReport: part 4 of its texts, joined (wip/pack.py). -/
import Derived.Test.YtadaegehdcngdaaGreatDoorKFnExactPipeReporta
import Derived.Test.YtadaegehdcngdaaGreatDoorKFnExactPipeReportb
import Derived.Test.YtadaegehdcngdaaGreatDoorKFnExactPipeReportc
import Derived.Test.YtadaegehdcngdaaGreatDoorKFnExactPipeReportd
import Derived.Outline

section
namespace Go.Proofs.YtadaegehdcngdaaGreatDoor.XV
open Go.RowKit Go.Proofs.YtadaegehdcngdaaGreatDoorW.PrintWords Go.Proofs.YtadaegehdcngdaaGreatDoorW.PrintLast Go.Proofs.YtadaegehdcngdaaGreatDoorW.PrintMore
attribute [local go_sem] run_eql_slice_nil binOp_string_gtr' binOp_string_leq' binOp_string_geq' max2_int min2_int max_two min_two max_three min_three max_four min_four   -- for this text's walks alone
set_option linter.unusedVariables false
set_option linter.unusedSimpArgs false
def spec_l03Ask.f (k : Nat) (a0_0 : ByteArray) (a0_1 : Int) (a0_2 : Int) (a0_3 : Int) (a0_4 : Int) (a0_5 : Int) (a1 : Int) : Option (Int) := (spec_l03Ok.f k a0_0 a0_1 a0_2 a0_3 a0_4 a0_5).bind fun t406 => (if t406 = true then ((spec_l03Flow.f a1).bind fun t407 => (if t407 = true then (some 0) else (some 2))) else (some 1))
set_option maxHeartbeats 8000000 in
set_option maxRecDepth 100000 in
theorem spec_l03Ask.calls (k : Nat) (v0 : Addr) (a0_0 : ByteArray) (a0_1 : Int) (a0_2 : Int) (a0_3 : Int) (a0_4 : Int) (a0_5 : Int) (a1 : Int) (r : Int) (w : World) (hv0 : ViewAt w v0 [.string a0_0, .int .i64 a0_1, .int .i64 a0_2, .int .i64 a0_3, .int .i64 a0_4, .int .i64 a0_5]) (h : spec_l03Ask.f k a0_0 a0_1 a0_2 a0_3 a0_4 a0_5 a1 = some r) :
  Calls Tryz.prog 78 #[.pointer (some v0), .int .i64 a1] w fun e w' => e = .returned (.int .i64 r) ∧ Drawn0 w w' := by
 have HV0 := Aside0.mk hv0
 have hvw0_0 : w.cell? v0 = some (.string a0_0) := hv0.at0
 have hvw0_1 : w.cell? ⟨v0.block, v0.off + 1, none⟩ = some (.int .i64 a0_1) := hv0.at_ 1 (by decide) rfl
 have hvw0_2 : w.cell? ⟨v0.block, v0.off + 2, none⟩ = some (.int .i64 a0_2) := hv0.at_ 2 (by decide) rfl
 have hvw0_3 : w.cell? ⟨v0.block, v0.off + 3, none⟩ = some (.int .i64 a0_3) := hv0.at_ 3 (by decide) rfl
 have hvw0_4 : w.cell? ⟨v0.block, v0.off + 4, none⟩ = some (.int .i64 a0_4) := hv0.at_ 4 (by decide) rfl
 have hvw0_5 : w.cell? ⟨v0.block, v0.off + 5, none⟩ = some (.int .i64 a0_5) := hv0.at_ 5 (by decide) rfl
 clear hv0
 have H : ((spec_l03Ok.f k a0_0 a0_1 a0_2 a0_3 a0_4 a0_5).bind fun t406 => (if t406 = true then ((spec_l03Flow.f a1).bind fun t407 => (if t407 = true then (some 0) else (some 2))) else (some 1))) = some r := h
 clear h
 replace H := Option.bind_eq_some_iff.mp H
 obtain ⟨t406, A30, H⟩ := H
 replace H : (if t406 = true then ((spec_l03Flow.f a1).bind fun t407 => (if t407 = true then (some 0) else (some 2))) else (some 1)) = some r := H
 have A3 := Aside0.mk A30
 clear A30
 by_cases c4 : t406 = true
 ·subst c4
  have H1 : ((spec_l03Flow.f a1).bind fun t407 => (if t407 = true then (some 0) else (some 2))) = some r := by rw [if_pos rfl] at H; exact H
  clear H
  have H := H1
  clear H1
  replace H := Option.bind_eq_some_iff.mp H
  obtain ⟨t407, A50, H⟩ := H
  replace H : (if t407 = true then (some 0) else (some 2)) = some r := H
  have A5 := Aside0.mk A50
  clear A50
  by_cases c6 : t407 = true
  ·subst c6
   have H1 : (some 0) = some r := by rw [if_pos rfl] at H; exact H
   clear H
   have H := H1
   clear H1
   obtain rfl := Option.some.inj H
   go_enter Tryz.func78, Tryz.ntmps78
   go_wp2_with (first | ((with_reducible refine gate_callee (f := 96) rfl ?_); refine goesL_ (some 6) rfl rfl Tryz.func96 (by kernel_rfl) rfl #[.pointer (some v0)] rfl gZ ?_; (with_reducible refine (spec_l03Ok.calls k _ a0_0 a0_1 a0_2 a0_3 a0_4 a0_5 true _ ?side1 A3.out).mono ?_); (case side1 => exact HV0.out); rintro e w' ⟨rfl, ⟨nd, rfl⟩⟩; refine ⟨_, rfl, ?_⟩) | ((with_reducible refine gate_callee (f := 63) rfl ?_); refine goesL_ (some 9) rfl rfl Tryz.func63 (by kernel_rfl) rfl #[.int .i64 a1] rfl gZ ?_; (with_reducible refine (spec_l03Flow.calls a1 true _ A5.out).mono ?_); rintro e w' ⟨rfl, ⟨nd, rfl⟩⟩; refine ⟨_, rfl, ?_⟩))
   go_ret
   exact ⟨sZ, dZ⟩
  ·replace c6 := Bool.eq_false_iff.mpr c6
   subst c6
   have H1 : (some 2) = some r := by rw [if_neg (show ¬ (false = true) by decide)] at H; exact H
   clear H
   have H := H1
   clear H1
   obtain rfl := Option.some.inj H
   go_enter Tryz.func78, Tryz.ntmps78
   go_wp2_with (first | ((with_reducible refine gate_callee (f := 96) rfl ?_); refine goesL_ (some 6) rfl rfl Tryz.func96 (by kernel_rfl) rfl #[.pointer (some v0)] rfl gZ ?_; (with_reducible refine (spec_l03Ok.calls k _ a0_0 a0_1 a0_2 a0_3 a0_4 a0_5 true _ ?side1 A3.out).mono ?_); (case side1 => exact HV0.out); rintro e w' ⟨rfl, ⟨nd, rfl⟩⟩; refine ⟨_, rfl, ?_⟩) | ((with_reducible refine gate_callee (f := 63) rfl ?_); refine goesL_ (some 9) rfl rfl Tryz.func63 (by kernel_rfl) rfl #[.int .i64 a1] rfl gZ ?_; (with_reducible refine (spec_l03Flow.calls a1 false _ A5.out).mono ?_); rintro e w' ⟨rfl, ⟨nd, rfl⟩⟩; refine ⟨_, rfl, ?_⟩))
   go_ret
   exact ⟨sZ, dZ⟩
 ·replace c4 := Bool.eq_false_iff.mpr c4
  subst c4
  have H1 : (some 1) = some r := by rw [if_neg (show ¬ (false = true) by decide)] at H; exact H
  clear H
  have H := H1
  clear H1
  obtain rfl := Option.some.inj H
  go_enter Tryz.func78, Tryz.ntmps78
  go_wp2_with (first | ((with_reducible refine gate_callee (f := 96) rfl ?_); refine goesL_ (some 6) rfl rfl Tryz.func96 (by kernel_rfl) rfl #[.pointer (some v0)] rfl gZ ?_; (with_reducible refine (spec_l03Ok.calls k _ a0_0 a0_1 a0_2 a0_3 a0_4 a0_5 false _ ?side1 A3.out).mono ?_); (case side1 => exact HV0.out); rintro e w' ⟨rfl, ⟨nd, rfl⟩⟩; refine ⟨_, rfl, ?_⟩))
  go_ret
  exact ⟨sZ, dZ⟩
def spec_l01Div.f (a0 : Int) (a1 : Int) : Option (Int) := if a1 < 0 then (if (wrap64 (-a0)) < 0 then (if (wrap64 (2 * (wrap64 (-a1)))) = 0 then (none) else (some (wrap64 (-(wrap64 (Int.tdiv (wrap64 ((wrap64 (-a1)) - (wrap64 (2 * (wrap64 (-a0)))))) (wrap64 (2 * (wrap64 (-a1)))))))))) else (if (wrap64 (2 * (wrap64 (-a1)))) = 0 then (none) else (some (wrap64 (Int.tdiv (wrap64 ((wrap64 (2 * (wrap64 (-a0)))) + (wrap64 (-a1)))) (wrap64 (2 * (wrap64 (-a1))))))))) else (if a0 < 0 then (if (wrap64 (2 * a1)) = 0 then (none) else (some (wrap64 (-(wrap64 (Int.tdiv (wrap64 (a1 - (wrap64 (2 * a0)))) (wrap64 (2 * a1)))))))) else (if (wrap64 (2 * a1)) = 0 then (none) else (some (wrap64 (Int.tdiv (wrap64 ((wrap64 (2 * a0)) + a1)) (wrap64 (2 * a1)))))))
set_option maxHeartbeats 8000000 in
set_option maxRecDepth 100000 in
theorem spec_l01Div.calls (a0 : Int) (a1 : Int) (r : Int) (w : World) (h : spec_l01Div.f a0 a1 = some r) :
  Calls Tryz.prog 156 #[.int .i64 a0, .int .i64 a1] w fun e w' => e = .returned (.int .i64 r) ∧ Drawn0 w w' := by
 have H : (if a1 < 0 then (if (wrap64 (-a0)) < 0 then (if (wrap64 (2 * (wrap64 (-a1)))) = 0 then (none) else (some (wrap64 (-(wrap64 (Int.tdiv (wrap64 ((wrap64 (-a1)) - (wrap64 (2 * (wrap64 (-a0)))))) (wrap64 (2 * (wrap64 (-a1)))))))))) else (if (wrap64 (2 * (wrap64 (-a1)))) = 0 then (none) else (some (wrap64 (Int.tdiv (wrap64 ((wrap64 (2 * (wrap64 (-a0)))) + (wrap64 (-a1)))) (wrap64 (2 * (wrap64 (-a1))))))))) else (if a0 < 0 then (if (wrap64 (2 * a1)) = 0 then (none) else (some (wrap64 (-(wrap64 (Int.tdiv (wrap64 (a1 - (wrap64 (2 * a0)))) (wrap64 (2 * a1)))))))) else (if (wrap64 (2 * a1)) = 0 then (none) else (some (wrap64 (Int.tdiv (wrap64 ((wrap64 (2 * a0)) + a1)) (wrap64 (2 * a1)))))))) = some r := h
 clear h
 by_cases c3 : a1 < 0
 ·rw [if_pos c3] at H
  have c3b0 : decide (a1 < 0) = true := decide_eq_true c3
  clear c3
  by_cases c4 : (wrap64 (-a0)) < 0
  ·rw [if_pos c4] at H
   have c4b0 : decide ((wrap64 (-a0)) < 0) = true := decide_eq_true c4
   clear c4
   by_cases c5 : (wrap64 (2 * (wrap64 (-a1)))) = 0
   ·rw [if_pos c5] at H
    exact absurd H (by simp)
   ·rw [if_neg c5] at H
    have c5b0 : ((wrap64 (2 * (wrap64 (-a1)))) == 0) = false := beq_eq_false_iff_ne.mpr c5
    have c5b1 : ((wrap64 (2 * (wrap64 (-a1)))) != 0) = true := bne_iff_ne.mpr c5
    obtain rfl := Option.some.inj H
    go_enter Tryz.func156, Tryz.ntmps156
    go_wp2
    go_ret
    exact ⟨sZ, dZ⟩
  ·rw [if_neg c4] at H
   have c4b0 : decide ((wrap64 (-a0)) < 0) = false := decide_eq_false c4
   clear c4
   by_cases c6 : (wrap64 (2 * (wrap64 (-a1)))) = 0
   ·rw [if_pos c6] at H
    exact absurd H (by simp)
   ·rw [if_neg c6] at H
    have c6b0 : ((wrap64 (2 * (wrap64 (-a1)))) == 0) = false := beq_eq_false_iff_ne.mpr c6
    have c6b1 : ((wrap64 (2 * (wrap64 (-a1)))) != 0) = true := bne_iff_ne.mpr c6
    obtain rfl := Option.some.inj H
    go_enter Tryz.func156, Tryz.ntmps156
    go_wp2
    go_ret
    exact ⟨sZ, dZ⟩
 ·rw [if_neg c3] at H
  have c3b0 : decide (a1 < 0) = false := decide_eq_false c3
  clear c3
  by_cases c7 : a0 < 0
  ·rw [if_pos c7] at H
   have c7b0 : decide (a0 < 0) = true := decide_eq_true c7
   clear c7
   by_cases c8 : (wrap64 (2 * a1)) = 0
   ·rw [if_pos c8] at H
    exact absurd H (by simp)
   ·rw [if_neg c8] at H
    have c8b0 : ((wrap64 (2 * a1)) == 0) = false := beq_eq_false_iff_ne.mpr c8
    have c8b1 : ((wrap64 (2 * a1)) != 0) = true := bne_iff_ne.mpr c8
    obtain rfl := Option.some.inj H
    go_enter Tryz.func156, Tryz.ntmps156
    go_wp2
    go_ret
    exact ⟨sZ, dZ⟩
  ·rw [if_neg c7] at H
   have c7b0 : decide (a0 < 0) = false := decide_eq_false c7
   clear c7
   by_cases c9 : (wrap64 (2 * a1)) = 0
   ·rw [if_pos c9] at H
    exact absurd H (by simp)
   ·rw [if_neg c9] at H
    have c9b0 : ((wrap64 (2 * a1)) == 0) = false := beq_eq_false_iff_ne.mpr c9
    have c9b1 : ((wrap64 (2 * a1)) != 0) = true := bne_iff_ne.mpr c9
    obtain rfl := Option.some.inj H
    go_enter Tryz.func156, Tryz.ntmps156
    go_wp2
    go_ret
    exact ⟨sZ, dZ⟩
def spec_l03Raw.f (a0_0 : ByteArray) (a0_1 : Int) (a0_2 : Int) (a0_3 : Int) (a0_4 : Int) (a0_5 : Int) (a1 : Int) (a2 : Int) : Option (Int) := (spec_l03Abs.f a2).bind fun t408 => ((spec_l01Div.f (wrap64 ((wrap64 ((wrap64 (a0_3 * 16200)) * a2)) * t408)) (wrap64 ((wrap64 ((wrap64 ((wrap64 (a1 * a1)) * a1)) * a1)) * a1))).bind fun t409 => (some t409))
set_option maxHeartbeats 8000000 in
set_option maxRecDepth 100000 in
theorem spec_l03Raw.calls (v0 : Addr) (a0_0 : ByteArray) (a0_1 : Int) (a0_2 : Int) (a0_3 : Int) (a0_4 : Int) (a0_5 : Int) (a1 : Int) (a2 : Int) (r : Int) (w : World) (hv0 : ViewAt w v0 [.string a0_0, .int .i64 a0_1, .int .i64 a0_2, .int .i64 a0_3, .int .i64 a0_4, .int .i64 a0_5]) (h : spec_l03Raw.f a0_0 a0_1 a0_2 a0_3 a0_4 a0_5 a1 a2 = some r) :
  Calls Tryz.prog 115 #[.pointer (some v0), .int .i64 a1, .int .i64 a2] w fun e w' => e = .returned (.int .i64 r) ∧ Drawn0 w w' := by
 have HV0 := Aside0.mk hv0
 have hvw0_0 : w.cell? v0 = some (.string a0_0) := hv0.at0
 have hvw0_1 : w.cell? ⟨v0.block, v0.off + 1, none⟩ = some (.int .i64 a0_1) := hv0.at_ 1 (by decide) rfl
 have hvw0_2 : w.cell? ⟨v0.block, v0.off + 2, none⟩ = some (.int .i64 a0_2) := hv0.at_ 2 (by decide) rfl
 have hvw0_3 : w.cell? ⟨v0.block, v0.off + 3, none⟩ = some (.int .i64 a0_3) := hv0.at_ 3 (by decide) rfl
 have hvw0_4 : w.cell? ⟨v0.block, v0.off + 4, none⟩ = some (.int .i64 a0_4) := hv0.at_ 4 (by decide) rfl
 have hvw0_5 : w.cell? ⟨v0.block, v0.off + 5, none⟩ = some (.int .i64 a0_5) := hv0.at_ 5 (by decide) rfl
 clear hv0
 have H : ((spec_l03Abs.f a2).bind fun t408 => ((spec_l01Div.f (wrap64 ((wrap64 ((wrap64 (a0_3 * 16200)) * a2)) * t408)) (wrap64 ((wrap64 ((wrap64 ((wrap64 (a1 * a1)) * a1)) * a1)) * a1))).bind fun t409 => (some t409))) = some r := h
 clear h
 replace H := Option.bind_eq_some_iff.mp H
 obtain ⟨t408, A40, H⟩ := H
 replace H : ((spec_l01Div.f (wrap64 ((wrap64 ((wrap64 (a0_3 * 16200)) * a2)) * t408)) (wrap64 ((wrap64 ((wrap64 ((wrap64 (a1 * a1)) * a1)) * a1)) * a1))).bind fun t409 => (some t409)) = some r := H
 have A4 := Aside0.mk A40
 clear A40
 replace H := Option.bind_eq_some_iff.mp H
 obtain ⟨t409, A50, H⟩ := H
 replace H : (some t409) = some r := H
 have A5 := Aside0.mk A50
 clear A50
 obtain rfl := Option.some.inj H
 go_enter Tryz.func115, Tryz.ntmps115
 go_wp2_with (first | (go_at_call 33; (with_reducible refine (spec_l03Abs.calls a2 t408 _ A4.out).mono ?_); rintro e w' ⟨rfl, ⟨nd, rfl⟩⟩; (try first | exact ⟨rfl, _, World.drewN_drewN _ _ _⟩ | exact ⟨rfl, _, Eq.trans (World.drewN_drewN _ _ _) (congrArg (World.drewN _) (Nat.add_assoc _ _ _))⟩)) | (go_at_call 156; (with_reducible refine (spec_l01Div.calls (wrap64 ((wrap64 ((wrap64 (a0_3 * 16200)) * a2)) * t408)) (wrap64 ((wrap64 ((wrap64 ((wrap64 (a1 * a1)) * a1)) * a1)) * a1)) t409 _ A5.out).mono ?_); rintro e w' ⟨rfl, ⟨nd, rfl⟩⟩; (try first | exact ⟨rfl, _, World.drewN_drewN _ _ _⟩ | exact ⟨rfl, _, Eq.trans (World.drewN_drewN _ _ _) (congrArg (World.drewN _) (Nat.add_assoc _ _ _))⟩)))
 repeat (go_quiet (first | (go_at_call 33; (with_reducible refine (spec_l03Abs.calls a2 t408 _ A4.out).mono ?_); rintro e w' ⟨rfl, ⟨nd, rfl⟩⟩; (try first | exact ⟨rfl, _, World.drewN_drewN _ _ _⟩ | exact ⟨rfl, _, Eq.trans (World.drewN_drewN _ _ _) (congrArg (World.drewN _) (Nat.add_assoc _ _ _))⟩)) | (go_at_call 156; (with_reducible refine (spec_l01Div.calls (wrap64 ((wrap64 ((wrap64 (a0_3 * 16200)) * a2)) * t408)) (wrap64 ((wrap64 ((wrap64 ((wrap64 (a1 * a1)) * a1)) * a1)) * a1)) t409 _ A5.out).mono ?_); rintro e w' ⟨rfl, ⟨nd, rfl⟩⟩; (try first | exact ⟨rfl, _, World.drewN_drewN _ _ _⟩ | exact ⟨rfl, _, Eq.trans (World.drewN_drewN _ _ _) (congrArg (World.drewN _) (Nat.add_assoc _ _ _))⟩))); try go_wp2_with (first | (go_at_call 33; (with_reducible refine (spec_l03Abs.calls a2 t408 _ A4.out).mono ?_); rintro e w' ⟨rfl, ⟨nd, rfl⟩⟩; (try first | exact ⟨rfl, _, World.drewN_drewN _ _ _⟩ | exact ⟨rfl, _, Eq.trans (World.drewN_drewN _ _ _) (congrArg (World.drewN _) (Nat.add_assoc _ _ _))⟩)) | (go_at_call 156; (with_reducible refine (spec_l01Div.calls (wrap64 ((wrap64 ((wrap64 (a0_3 * 16200)) * a2)) * t408)) (wrap64 ((wrap64 ((wrap64 ((wrap64 (a1 * a1)) * a1)) * a1)) * a1)) t409 _ A5.out).mono ?_); rintro e w' ⟨rfl, ⟨nd, rfl⟩⟩; (try first | exact ⟨rfl, _, World.drewN_drewN _ _ _⟩ | exact ⟨rfl, _, Eq.trans (World.drewN_drewN _ _ _) (congrArg (World.drewN _) (Nat.add_assoc _ _ _))⟩))))
 go_ret
 exact ⟨sZ, dZ⟩
def spec_l03Drop.f (a0_0 : ByteArray) (a0_1 : Int) (a0_2 : Int) (a0_3 : Int) (a0_4 : Int) (a0_5 : Int) (a1 : Int) : Option (Int × Int) := (spec_l03Raw.f a0_0 a0_1 a0_2 a0_3 a0_4 a0_5 a0_4 a1).bind fun t410 => ((spec_l03Abs.f t410).bind fun t411 => (if t411 > 100000000 then (some (0, 6)) else (some (t410, 0))))
set_option maxHeartbeats 8000000 in
set_option maxRecDepth 100000 in
theorem spec_l03Drop.calls (v0 : Addr) (a0_0 : ByteArray) (a0_1 : Int) (a0_2 : Int) (a0_3 : Int) (a0_4 : Int) (a0_5 : Int) (a1 : Int) (r1 : Int) (r2 : Int) (w : World) (hv0 : ViewAt w v0 [.string a0_0, .int .i64 a0_1, .int .i64 a0_2, .int .i64 a0_3, .int .i64 a0_4, .int .i64 a0_5]) (h : spec_l03Drop.f a0_0 a0_1 a0_2 a0_3 a0_4 a0_5 a1 = some (r1, r2)) :
  Calls Tryz.prog 79 #[.pointer (some v0), .int .i64 a1] w fun e w' => e = .returned (.tuple #[.int .i64 r1, .int .i64 r2]) ∧ Drawn0 w w' := by
 have HV0 := Aside0.mk hv0
 have hvw0_0 : w.cell? v0 = some (.string a0_0) := hv0.at0
 have hvw0_1 : w.cell? ⟨v0.block, v0.off + 1, none⟩ = some (.int .i64 a0_1) := hv0.at_ 1 (by decide) rfl
 have hvw0_2 : w.cell? ⟨v0.block, v0.off + 2, none⟩ = some (.int .i64 a0_2) := hv0.at_ 2 (by decide) rfl
 have hvw0_3 : w.cell? ⟨v0.block, v0.off + 3, none⟩ = some (.int .i64 a0_3) := hv0.at_ 3 (by decide) rfl
 have hvw0_4 : w.cell? ⟨v0.block, v0.off + 4, none⟩ = some (.int .i64 a0_4) := hv0.at_ 4 (by decide) rfl
 have hvw0_5 : w.cell? ⟨v0.block, v0.off + 5, none⟩ = some (.int .i64 a0_5) := hv0.at_ 5 (by decide) rfl
 clear hv0
 have H : ((spec_l03Raw.f a0_0 a0_1 a0_2 a0_3 a0_4 a0_5 a0_4 a1).bind fun t410 => ((spec_l03Abs.f t410).bind fun t411 => (if t411 > 100000000 then (some (0, 6)) else (some (t410, 0))))) = some (r1, r2) := h
 clear h
 replace H := Option.bind_eq_some_iff.mp H
 obtain ⟨t410, A30, H⟩ := H
 replace H : ((spec_l03Abs.f t410).bind fun t411 => (if t411 > 100000000 then (some (0, 6)) else (some (t410, 0)))) = some (r1, r2) := H
 have A3 := Aside0.mk A30
 clear A30
 replace H := Option.bind_eq_some_iff.mp H
 obtain ⟨t411, A40, H⟩ := H
 replace H : (if t411 > 100000000 then (some (0, 6)) else (some (t410, 0))) = some (r1, r2) := H
 have A4 := Aside0.mk A40
 clear A40
 by_cases c5 : t411 > 100000000
 ·rw [if_pos c5] at H
  have c5b0 : decide (100000000 < t411) = true := decide_eq_true c5
  clear c5
  simp only [Option.some.injEq, Prod.mk.injEq] at H
  obtain ⟨rfl, rfl⟩ := H
  go_enter Tryz.func79, Tryz.ntmps79
  go_wp2_with (first | ((with_reducible refine gate_callee (f := 115) rfl ?_); refine goesL_ (some 13) rfl rfl Tryz.func115 (by kernel_rfl) rfl #[.pointer (some v0), .int .i64 a0_4, .int .i64 a1] rfl gZ ?_; (with_reducible refine (spec_l03Raw.calls _ a0_0 a0_1 a0_2 a0_3 a0_4 a0_5 a0_4 a1 t410 _ ?side1 A3.out).mono ?_); (case side1 => exact HV0.out); rintro e w' ⟨rfl, ⟨nd, rfl⟩⟩; refine ⟨_, rfl, ?_⟩) | ((with_reducible refine gate_callee (f := 33) rfl ?_); refine goesL_ (some 15) rfl rfl Tryz.func33 (by kernel_rfl) rfl #[.int .i64 t410] rfl gZ ?_; (with_reducible refine (spec_l03Abs.calls t410 t411 _ A4.out).mono ?_); rintro e w' ⟨rfl, ⟨nd, rfl⟩⟩; refine ⟨_, rfl, ?_⟩))
  go_ret2
  exact ⟨sZ, dZ⟩
 ·rw [if_neg c5] at H
  have c5b0 : decide (100000000 < t411) = false := decide_eq_false c5
  clear c5
  simp only [Option.some.injEq, Prod.mk.injEq] at H
  obtain ⟨rfl, rfl⟩ := H
  go_enter Tryz.func79, Tryz.ntmps79
  go_wp2_with (first | ((with_reducible refine gate_callee (f := 115) rfl ?_); refine goesL_ (some 13) rfl rfl Tryz.func115 (by kernel_rfl) rfl #[.pointer (some v0), .int .i64 a0_4, .int .i64 a1] rfl gZ ?_; (with_reducible refine (spec_l03Raw.calls _ a0_0 a0_1 a0_2 a0_3 a0_4 a0_5 a0_4 a1 t410 _ ?side1 A3.out).mono ?_); (case side1 => exact HV0.out); rintro e w' ⟨rfl, ⟨nd, rfl⟩⟩; refine ⟨_, rfl, ?_⟩) | ((with_reducible refine gate_callee (f := 33) rfl ?_); refine goesL_ (some 15) rfl rfl Tryz.func33 (by kernel_rfl) rfl #[.int .i64 t410] rfl gZ ?_; (with_reducible refine (spec_l03Abs.calls t410 t411 _ A4.out).mono ?_); rintro e w' ⟨rfl, ⟨nd, rfl⟩⟩; refine ⟨_, rfl, ?_⟩))
  go_ret2
  exact ⟨sZ, dZ⟩
end Go.Proofs.YtadaegehdcngdaaGreatDoor.XV
end

section
namespace Go.Proofs.YtadaegehdcngdaaGreatDoor.XV
open Go.RowKit Go.Proofs.YtadaegehdcngdaaGreatDoorW.PrintWords Go.Proofs.YtadaegehdcngdaaGreatDoorW.PrintLast Go.Proofs.YtadaegehdcngdaaGreatDoorW.PrintMore
attribute [local go_sem] run_eql_slice_nil binOp_string_gtr' binOp_string_leq' binOp_string_geq' max2_int min2_int max_two min_two max_three min_three max_four min_four   -- for this text's walks alone
set_option linter.unusedVariables false
set_option linter.unusedSimpArgs false
def spec_DropOf.f (k : Nat) (a0_0 : ByteArray) (a0_1 : Int) (a0_2 : Int) (a0_3 : Int) (a0_4 : Int) (a0_5 : Int) (a1 : Int) : Option (Int × Int) := (spec_l03Ask.f k a0_0 a0_1 a0_2 a0_3 a0_4 a0_5 a1).bind fun t413 => (if t413 = 0 then ((spec_l03Drop.f a0_0 a0_1 a0_2 a0_3 a0_4 a0_5 a1).bind fun bt414 => (some (bt414.1, bt414.2))) else (some (0, t413)))
set_option maxHeartbeats 8000000 in
set_option maxRecDepth 100000 in
theorem spec_DropOf.calls (k : Nat) (a0_0 : ByteArray) (a0_1 : Int) (a0_2 : Int) (a0_3 : Int) (a0_4 : Int) (a0_5 : Int) (a1 : Int) (r1 : Int) (r2 : Int) (w : World) (h : spec_DropOf.f k a0_0 a0_1 a0_2 a0_3 a0_4 a0_5 a1 = some (r1, r2)) :
  Calls Tryz.prog 46 #[.agg #[.string a0_0, .int .i64 a0_1, .int .i64 a0_2, .int .i64 a0_3, .int .i64 a0_4, .int .i64 a0_5], .int .i64 a1] w fun e w' => e = .returned (.tuple #[.int .i64 r1, .int .i64 r2]) ∧ Below w.heap.size w w' := by
 have hu58 := Tryz.underlying58
 have HB := Aside0.mk (Below.refl w.heap.size w)
 have H : ((spec_l03Ask.f k a0_0 a0_1 a0_2 a0_3 a0_4 a0_5 a1).bind fun t413 => (if t413 = 0 then ((spec_l03Drop.f a0_0 a0_1 a0_2 a0_3 a0_4 a0_5 a1).bind fun bt414 => (some (bt414.1, bt414.2))) else (some (0, t413)))) = some (r1, r2) := h
 clear h
 replace H := Option.bind_eq_some_iff.mp H
 obtain ⟨t413, A30, H⟩ := H
 replace H : (if t413 = 0 then ((spec_l03Drop.f a0_0 a0_1 a0_2 a0_3 a0_4 a0_5 a1).bind fun bt414 => (some (bt414.1, bt414.2))) else (some (0, t413))) = some (r1, r2) := H
 have A3 := Aside0.mk A30
 clear A30
 by_cases c4 : t413 = 0
 ·rw [if_pos c4] at H
  have c4b0 : (t413 == 0) = true := beq_iff_eq.mpr c4
  have c4b1 : (t413 != 0) = false := bne_eq_false_iff_eq.mpr c4
  clear c4
  replace H := Option.bind_eq_some_iff.mp H
  obtain ⟨⟨t414, t415⟩, A50, H⟩ := H
  replace H : (some (t414, t415)) = some (r1, r2) := H
  have A5 := Aside0.mk A50
  clear A50
  simp only [Option.some.injEq, Prod.mk.injEq] at H
  obtain ⟨rfl, rfl⟩ := H
  go_enter Tryz.func46, Tryz.ntmps46
  go_wp2_with (first | ((with_reducible refine gate_dst (N := 2) rfl ?_); refine boxZ 2 #[.string a0_0, .int .i64 a0_1, .int .i64 a0_2, .int .i64 a0_3, .int .i64 a0_4, .int .i64 a0_5] 58 rfl rfl ?_; intro gb412 hg w6 hbox hb; have n0_ := Aside0.mk (below_step bZ hb); have n1_ := Aside0.mk (hbox); have n2_ := Aside0.mk ((by rw [hg]; exact bsZ : w.heap.size ≤ gb412)); have n3_ := Aside0.mk ((by rw [hg]; exact bsZ : w.heap.size ≤ gb412)); clear HB; have HB := n0_; have BK412 := n1_; have GW412 := n2_; have GE412 := n3_; clear n0_ n1_ n2_ n3_; clear hb hbox hg) | ((with_reducible refine gate_callee (f := 78) rfl ?_); refine goesL_ (some 8) rfl rfl Tryz.func78 (by kernel_rfl) rfl #[.pointer (some ⟨gb412, 0, none⟩), .int .i64 a1] rfl gZ ?_; (with_reducible refine (spec_l03Ask.calls k _ a0_0 a0_1 a0_2 a0_3 a0_4 a0_5 a1 t413 _ ?side1 A3.out).mono ?_); (case side1 => exact ViewAt.of_blk (kZ BK412.out)); rintro e w' ⟨rfl, ⟨nd, rfl⟩⟩; refine ⟨_, rfl, ?_⟩) | ((with_reducible refine gate_callee (f := 79) rfl ?_); refine goesL_ (some 13) rfl rfl Tryz.func79 (by kernel_rfl) rfl #[.pointer (some ⟨gb412, 0, none⟩), .int .i64 a1] rfl gZ ?_; (with_reducible refine (spec_l03Drop.calls _ a0_0 a0_1 a0_2 a0_3 a0_4 a0_5 a1 t414 t415 _ ?side1 A5.out).mono ?_); (case side1 => exact ViewAt.of_blk (kZ BK412.out)); rintro e w' ⟨rfl, ⟨nd, rfl⟩⟩; refine ⟨_, rfl, ?_⟩))
  go_ret2
  exact ⟨eZ, bZ⟩
 ·rw [if_neg c4] at H
  have c4b0 : (t413 == 0) = false := beq_eq_false_iff_ne.mpr c4
  have c4b1 : (t413 != 0) = true := bne_iff_ne.mpr c4
  simp only [Option.some.injEq, Prod.mk.injEq] at H
  obtain ⟨rfl, rfl⟩ := H
  go_enter Tryz.func46, Tryz.ntmps46
  go_wp2_with (first | ((with_reducible refine gate_dst (N := 2) rfl ?_); refine boxZ 2 #[.string a0_0, .int .i64 a0_1, .int .i64 a0_2, .int .i64 a0_3, .int .i64 a0_4, .int .i64 a0_5] 58 rfl rfl ?_; intro gb412 hg w7 hbox hb; have n0_ := Aside0.mk (below_step bZ hb); have n1_ := Aside0.mk (hbox); have n2_ := Aside0.mk ((by rw [hg]; exact bsZ : w.heap.size ≤ gb412)); have n3_ := Aside0.mk ((by rw [hg]; exact bsZ : w.heap.size ≤ gb412)); clear HB; have HB := n0_; have BK412 := n1_; have GW412 := n2_; have GE412 := n3_; clear n0_ n1_ n2_ n3_; clear hb hbox hg) | ((with_reducible refine gate_callee (f := 78) rfl ?_); refine goesL_ (some 8) rfl rfl Tryz.func78 (by kernel_rfl) rfl #[.pointer (some ⟨gb412, 0, none⟩), .int .i64 a1] rfl gZ ?_; (with_reducible refine (spec_l03Ask.calls k _ a0_0 a0_1 a0_2 a0_3 a0_4 a0_5 a1 t413 _ ?side1 A3.out).mono ?_); (case side1 => exact ViewAt.of_blk (kZ BK412.out)); rintro e w' ⟨rfl, ⟨nd, rfl⟩⟩; refine ⟨_, rfl, ?_⟩))
  go_ret2
  exact ⟨eZ, bZ⟩
def spec_l03Water.f (a0_0 : ByteArray) (a0_1 : Int) (a0_2 : Int) (a0_3 : Int) (a0_4 : Int) (a0_5 : Int) : Option (Int) := (spec_l01Div.f (wrap64 ((wrap64 ((wrap64 (a0_3 * a0_4)) * a0_4)) * 7854)) 10000).bind fun t416 => (some t416)
set_option maxHeartbeats 8000000 in
set_option maxRecDepth 100000 in
theorem spec_l03Water.calls (v0 : Addr) (a0_0 : ByteArray) (a0_1 : Int) (a0_2 : Int) (a0_3 : Int) (a0_4 : Int) (a0_5 : Int) (r : Int) (w : World) (hv0 : ViewAt w v0 [.string a0_0, .int .i64 a0_1, .int .i64 a0_2, .int .i64 a0_3, .int .i64 a0_4, .int .i64 a0_5]) (h : spec_l03Water.f a0_0 a0_1 a0_2 a0_3 a0_4 a0_5 = some r) :
  Calls Tryz.prog 116 #[.pointer (some v0)] w fun e w' => e = .returned (.int .i64 r) ∧ Drawn0 w w' := by
 have HV0 := Aside0.mk hv0
 have hvw0_0 : w.cell? v0 = some (.string a0_0) := hv0.at0
 have hvw0_1 : w.cell? ⟨v0.block, v0.off + 1, none⟩ = some (.int .i64 a0_1) := hv0.at_ 1 (by decide) rfl
 have hvw0_2 : w.cell? ⟨v0.block, v0.off + 2, none⟩ = some (.int .i64 a0_2) := hv0.at_ 2 (by decide) rfl
 have hvw0_3 : w.cell? ⟨v0.block, v0.off + 3, none⟩ = some (.int .i64 a0_3) := hv0.at_ 3 (by decide) rfl
 have hvw0_4 : w.cell? ⟨v0.block, v0.off + 4, none⟩ = some (.int .i64 a0_4) := hv0.at_ 4 (by decide) rfl
 have hvw0_5 : w.cell? ⟨v0.block, v0.off + 5, none⟩ = some (.int .i64 a0_5) := hv0.at_ 5 (by decide) rfl
 clear hv0
 have H : ((spec_l01Div.f (wrap64 ((wrap64 ((wrap64 (a0_3 * a0_4)) * a0_4)) * 7854)) 10000).bind fun t416 => (some t416)) = some r := h
 clear h
 replace H := Option.bind_eq_some_iff.mp H
 obtain ⟨t416, A20, H⟩ := H
 replace H : (some t416) = some r := H
 have A2 := Aside0.mk A20
 clear A20
 obtain rfl := Option.some.inj H
 go_enter Tryz.func116, Tryz.ntmps116
 go_wp2_with (first | (go_at_call 156; (with_reducible refine (spec_l01Div.calls (wrap64 ((wrap64 ((wrap64 (a0_3 * a0_4)) * a0_4)) * 7854)) 10000 t416 _ A2.out).mono ?_); rintro e w' ⟨rfl, ⟨nd, rfl⟩⟩; (try first | exact ⟨rfl, _, World.drewN_drewN _ _ _⟩ | exact ⟨rfl, _, Eq.trans (World.drewN_drewN _ _ _) (congrArg (World.drewN _) (Nat.add_assoc _ _ _))⟩)))
 repeat (go_quiet (first | (go_at_call 156; (with_reducible refine (spec_l01Div.calls (wrap64 ((wrap64 ((wrap64 (a0_3 * a0_4)) * a0_4)) * 7854)) 10000 t416 _ A2.out).mono ?_); rintro e w' ⟨rfl, ⟨nd, rfl⟩⟩; (try first | exact ⟨rfl, _, World.drewN_drewN _ _ _⟩ | exact ⟨rfl, _, Eq.trans (World.drewN_drewN _ _ _) (congrArg (World.drewN _) (Nat.add_assoc _ _ _))⟩))); try go_wp2_with (first | (go_at_call 156; (with_reducible refine (spec_l01Div.calls (wrap64 ((wrap64 ((wrap64 (a0_3 * a0_4)) * a0_4)) * 7854)) 10000 t416 _ A2.out).mono ?_); rintro e w' ⟨rfl, ⟨nd, rfl⟩⟩; (try first | exact ⟨rfl, _, World.drewN_drewN _ _ _⟩ | exact ⟨rfl, _, Eq.trans (World.drewN_drewN _ _ _) (congrArg (World.drewN _) (Nat.add_assoc _ _ _))⟩))))
 go_ret
 exact ⟨sZ, dZ⟩
def spec_l03Delay.f (a0_0 : ByteArray) (a0_1 : Int) (a0_2 : Int) (a0_3 : Int) (a0_4 : Int) (a0_5 : Int) (a1 : Int) : Option (Int) := (spec_l03Water.f a0_0 a0_1 a0_2 a0_3 a0_4 a0_5).bind fun t417 => ((spec_l03Abs.f a1).bind fun t418 => ((spec_l03Abs.f a1).bind fun t419 => (if t419 = 0 then (none) else (some (wrap64 (Int.tdiv (wrap64 ((wrap64 (t417 + t418)) - 1)) t419))))))
set_option maxHeartbeats 8000000 in
set_option maxRecDepth 100000 in
theorem spec_l03Delay.calls (v0 : Addr) (a0_0 : ByteArray) (a0_1 : Int) (a0_2 : Int) (a0_3 : Int) (a0_4 : Int) (a0_5 : Int) (a1 : Int) (r : Int) (w : World) (hv0 : ViewAt w v0 [.string a0_0, .int .i64 a0_1, .int .i64 a0_2, .int .i64 a0_3, .int .i64 a0_4, .int .i64 a0_5]) (h : spec_l03Delay.f a0_0 a0_1 a0_2 a0_3 a0_4 a0_5 a1 = some r) :
  Calls Tryz.prog 80 #[.pointer (some v0), .int .i64 a1] w fun e w' => e = .returned (.int .i64 r) ∧ Drawn0 w w' := by
 have HV0 := Aside0.mk hv0
 have hvw0_0 : w.cell? v0 = some (.string a0_0) := hv0.at0
 have hvw0_1 : w.cell? ⟨v0.block, v0.off + 1, none⟩ = some (.int .i64 a0_1) := hv0.at_ 1 (by decide) rfl
 have hvw0_2 : w.cell? ⟨v0.block, v0.off + 2, none⟩ = some (.int .i64 a0_2) := hv0.at_ 2 (by decide) rfl
 have hvw0_3 : w.cell? ⟨v0.block, v0.off + 3, none⟩ = some (.int .i64 a0_3) := hv0.at_ 3 (by decide) rfl
 have hvw0_4 : w.cell? ⟨v0.block, v0.off + 4, none⟩ = some (.int .i64 a0_4) := hv0.at_ 4 (by decide) rfl
 have hvw0_5 : w.cell? ⟨v0.block, v0.off + 5, none⟩ = some (.int .i64 a0_5) := hv0.at_ 5 (by decide) rfl
 clear hv0
 have H : ((spec_l03Water.f a0_0 a0_1 a0_2 a0_3 a0_4 a0_5).bind fun t417 => ((spec_l03Abs.f a1).bind fun t418 => ((spec_l03Abs.f a1).bind fun t419 => (if t419 = 0 then (none) else (some (wrap64 (Int.tdiv (wrap64 ((wrap64 (t417 + t418)) - 1)) t419))))))) = some r := h
 clear h
 replace H := Option.bind_eq_some_iff.mp H
 obtain ⟨t417, A30, H⟩ := H
 replace H : ((spec_l03Abs.f a1).bind fun t418 => ((spec_l03Abs.f a1).bind fun t419 => (if t419 = 0 then (none) else (some (wrap64 (Int.tdiv (wrap64 ((wrap64 (t417 + t418)) - 1)) t419)))))) = some r := H
 have A3 := Aside0.mk A30
 clear A30
 replace H := Option.bind_eq_some_iff.mp H
 obtain ⟨t418, A40, H⟩ := H
 replace H : ((spec_l03Abs.f a1).bind fun t419 => (if t419 = 0 then (none) else (some (wrap64 (Int.tdiv (wrap64 ((wrap64 (t417 + t418)) - 1)) t419))))) = some r := H
 have A4 := Aside0.mk A40
 clear A40
 replace H := Option.bind_eq_some_iff.mp H
 obtain ⟨t419, A50, H⟩ := H
 replace H : (if t419 = 0 then (none) else (some (wrap64 (Int.tdiv (wrap64 ((wrap64 (t417 + t418)) - 1)) t419)))) = some r := H
 have A5 := Aside0.mk A50
 clear A50
 by_cases c6 : t419 = 0
 ·rw [if_pos c6] at H
  exact absurd H (by simp)
 ·rw [if_neg c6] at H
  have c6b0 : (t419 == 0) = false := beq_eq_false_iff_ne.mpr c6
  have c6b1 : (t419 != 0) = true := bne_iff_ne.mpr c6
  obtain rfl := Option.some.inj H
  go_enter Tryz.func80, Tryz.ntmps80
  go_wp2_with (first | ((with_reducible refine gate_callee (f := 116) rfl ?_); refine goesL_ (some 6) rfl rfl Tryz.func116 (by kernel_rfl) rfl #[.pointer (some v0)] rfl gZ ?_; (with_reducible refine (spec_l03Water.calls _ a0_0 a0_1 a0_2 a0_3 a0_4 a0_5 t417 _ ?side1 A3.out).mono ?_); (case side1 => exact HV0.out); rintro e w' ⟨rfl, ⟨nd, rfl⟩⟩; refine ⟨_, rfl, ?_⟩) | ((with_reducible refine gate_callee (f := 33) rfl ?_); refine goesL_ (some 8) rfl rfl Tryz.func33 (by kernel_rfl) rfl #[.int .i64 a1] rfl gZ ?_; (with_reducible refine (spec_l03Abs.calls a1 t418 _ A4.out).mono ?_); rintro e w' ⟨rfl, ⟨nd, rfl⟩⟩; refine ⟨_, rfl, ?_⟩) | ((with_reducible refine gate_callee (f := 33) rfl ?_); refine goesL_ (some 12) rfl rfl Tryz.func33 (by kernel_rfl) rfl #[.int .i64 a1] rfl gZ ?_; (with_reducible refine (spec_l03Abs.calls a1 t419 _ A5.out).mono ?_); rintro e w' ⟨rfl, ⟨nd, rfl⟩⟩; refine ⟨_, rfl, ?_⟩))
  go_ret
  exact ⟨sZ, dZ⟩
def spec_DelayOf.f (k : Nat) (a0_0 : ByteArray) (a0_1 : Int) (a0_2 : Int) (a0_3 : Int) (a0_4 : Int) (a0_5 : Int) (a1 : Int) : Option (Int × Int) := (spec_l03Ask.f k a0_0 a0_1 a0_2 a0_3 a0_4 a0_5 a1).bind fun t421 => (if t421 = 0 then (if a1 = 0 then (some (0, 6)) else ((spec_l03Delay.f a0_0 a0_1 a0_2 a0_3 a0_4 a0_5 a1).bind fun t422 => (some (t422, 0)))) else (some (0, t421)))
set_option maxHeartbeats 8000000 in
set_option maxRecDepth 100000 in
theorem spec_DelayOf.calls (k : Nat) (a0_0 : ByteArray) (a0_1 : Int) (a0_2 : Int) (a0_3 : Int) (a0_4 : Int) (a0_5 : Int) (a1 : Int) (r1 : Int) (r2 : Int) (w : World) (h : spec_DelayOf.f k a0_0 a0_1 a0_2 a0_3 a0_4 a0_5 a1 = some (r1, r2)) :
  Calls Tryz.prog 47 #[.agg #[.string a0_0, .int .i64 a0_1, .int .i64 a0_2, .int .i64 a0_3, .int .i64 a0_4, .int .i64 a0_5], .int .i64 a1] w fun e w' => e = .returned (.tuple #[.int .i64 r1, .int .i64 r2]) ∧ Below w.heap.size w w' := by
 have hu58 := Tryz.underlying58
 have HB := Aside0.mk (Below.refl w.heap.size w)
 have H : ((spec_l03Ask.f k a0_0 a0_1 a0_2 a0_3 a0_4 a0_5 a1).bind fun t421 => (if t421 = 0 then (if a1 = 0 then (some (0, 6)) else ((spec_l03Delay.f a0_0 a0_1 a0_2 a0_3 a0_4 a0_5 a1).bind fun t422 => (some (t422, 0)))) else (some (0, t421)))) = some (r1, r2) := h
 clear h
 replace H := Option.bind_eq_some_iff.mp H
 obtain ⟨t421, A30, H⟩ := H
 replace H : (if t421 = 0 then (if a1 = 0 then (some (0, 6)) else ((spec_l03Delay.f a0_0 a0_1 a0_2 a0_3 a0_4 a0_5 a1).bind fun t422 => (some (t422, 0)))) else (some (0, t421))) = some (r1, r2) := H
 have A3 := Aside0.mk A30
 clear A30
 by_cases c4 : t421 = 0
 ·rw [if_pos c4] at H
  have c4b0 : (t421 == 0) = true := beq_iff_eq.mpr c4
  have c4b1 : (t421 != 0) = false := bne_eq_false_iff_eq.mpr c4
  clear c4
  by_cases c5 : a1 = 0
  ·rw [if_pos c5] at H
   have c5b0 : (a1 == 0) = true := beq_iff_eq.mpr c5
   have c5b1 : (a1 != 0) = false := bne_eq_false_iff_eq.mpr c5
   clear c5
   simp only [Option.some.injEq, Prod.mk.injEq] at H
   obtain ⟨rfl, rfl⟩ := H
   go_enter Tryz.func47, Tryz.ntmps47
   go_wp2_with (first | ((with_reducible refine gate_dst (N := 2) rfl ?_); refine boxZ 2 #[.string a0_0, .int .i64 a0_1, .int .i64 a0_2, .int .i64 a0_3, .int .i64 a0_4, .int .i64 a0_5] 58 rfl rfl ?_; intro gb420 hg w6 hbox hb; have n0_ := Aside0.mk (below_step bZ hb); have n1_ := Aside0.mk (hbox); have n2_ := Aside0.mk ((by rw [hg]; exact bsZ : w.heap.size ≤ gb420)); have n3_ := Aside0.mk ((by rw [hg]; exact bsZ : w.heap.size ≤ gb420)); clear HB; have HB := n0_; have BK420 := n1_; have GW420 := n2_; have GE420 := n3_; clear n0_ n1_ n2_ n3_; clear hb hbox hg) | ((with_reducible refine gate_callee (f := 78) rfl ?_); refine goesL_ (some 8) rfl rfl Tryz.func78 (by kernel_rfl) rfl #[.pointer (some ⟨gb420, 0, none⟩), .int .i64 a1] rfl gZ ?_; (with_reducible refine (spec_l03Ask.calls k _ a0_0 a0_1 a0_2 a0_3 a0_4 a0_5 a1 t421 _ ?side1 A3.out).mono ?_); (case side1 => exact ViewAt.of_blk (kZ BK420.out)); rintro e w' ⟨rfl, ⟨nd, rfl⟩⟩; refine ⟨_, rfl, ?_⟩))
   go_ret2
   exact ⟨eZ, bZ⟩
  ·rw [if_neg c5] at H
   have c5b0 : (a1 == 0) = false := beq_eq_false_iff_ne.mpr c5
   have c5b1 : (a1 != 0) = true := bne_iff_ne.mpr c5
   replace H := Option.bind_eq_some_iff.mp H
   obtain ⟨t422, A70, H⟩ := H
   replace H : (some (t422, 0)) = some (r1, r2) := H
   have A7 := Aside0.mk A70
   clear A70
   simp only [Option.some.injEq, Prod.mk.injEq] at H
   obtain ⟨rfl, rfl⟩ := H
   go_enter Tryz.func47, Tryz.ntmps47
   go_wp2_with (first | ((with_reducible refine gate_dst (N := 2) rfl ?_); refine boxZ 2 #[.string a0_0, .int .i64 a0_1, .int .i64 a0_2, .int .i64 a0_3, .int .i64 a0_4, .int .i64 a0_5] 58 rfl rfl ?_; intro gb420 hg w8 hbox hb; have n0_ := Aside0.mk (below_step bZ hb); have n1_ := Aside0.mk (hbox); have n2_ := Aside0.mk ((by rw [hg]; exact bsZ : w.heap.size ≤ gb420)); have n3_ := Aside0.mk ((by rw [hg]; exact bsZ : w.heap.size ≤ gb420)); clear HB; have HB := n0_; have BK420 := n1_; have GW420 := n2_; have GE420 := n3_; clear n0_ n1_ n2_ n3_; clear hb hbox hg) | ((with_reducible refine gate_callee (f := 78) rfl ?_); refine goesL_ (some 8) rfl rfl Tryz.func78 (by kernel_rfl) rfl #[.pointer (some ⟨gb420, 0, none⟩), .int .i64 a1] rfl gZ ?_; (with_reducible refine (spec_l03Ask.calls k _ a0_0 a0_1 a0_2 a0_3 a0_4 a0_5 a1 t421 _ ?side1 A3.out).mono ?_); (case side1 => exact ViewAt.of_blk (kZ BK420.out)); rintro e w' ⟨rfl, ⟨nd, rfl⟩⟩; refine ⟨_, rfl, ?_⟩) | ((with_reducible refine gate_callee (f := 80) rfl ?_); refine goesL_ (some 15) rfl rfl Tryz.func80 (by kernel_rfl) rfl #[.pointer (some ⟨gb420, 0, none⟩), .int .i64 a1] rfl gZ ?_; (with_reducible refine (spec_l03Delay.calls _ a0_0 a0_1 a0_2 a0_3 a0_4 a0_5 a1 t422 _ ?side1 A7.out).mono ?_); (case side1 => exact ViewAt.of_blk (kZ BK420.out)); rintro e w' ⟨rfl, ⟨nd, rfl⟩⟩; refine ⟨_, rfl, ?_⟩))
   go_ret2
   exact ⟨eZ, bZ⟩
 ·rw [if_neg c4] at H
  have c4b0 : (t421 == 0) = false := beq_eq_false_iff_ne.mpr c4
  have c4b1 : (t421 != 0) = true := bne_iff_ne.mpr c4
  simp only [Option.some.injEq, Prod.mk.injEq] at H
  obtain ⟨rfl, rfl⟩ := H
  go_enter Tryz.func47, Tryz.ntmps47
  go_wp2_with (first | ((with_reducible refine gate_dst (N := 2) rfl ?_); refine boxZ 2 #[.string a0_0, .int .i64 a0_1, .int .i64 a0_2, .int .i64 a0_3, .int .i64 a0_4, .int .i64 a0_5] 58 rfl rfl ?_; intro gb420 hg w9 hbox hb; have n0_ := Aside0.mk (below_step bZ hb); have n1_ := Aside0.mk (hbox); have n2_ := Aside0.mk ((by rw [hg]; exact bsZ : w.heap.size ≤ gb420)); have n3_ := Aside0.mk ((by rw [hg]; exact bsZ : w.heap.size ≤ gb420)); clear HB; have HB := n0_; have BK420 := n1_; have GW420 := n2_; have GE420 := n3_; clear n0_ n1_ n2_ n3_; clear hb hbox hg) | ((with_reducible refine gate_callee (f := 78) rfl ?_); refine goesL_ (some 8) rfl rfl Tryz.func78 (by kernel_rfl) rfl #[.pointer (some ⟨gb420, 0, none⟩), .int .i64 a1] rfl gZ ?_; (with_reducible refine (spec_l03Ask.calls k _ a0_0 a0_1 a0_2 a0_3 a0_4 a0_5 a1 t421 _ ?side1 A3.out).mono ?_); (case side1 => exact ViewAt.of_blk (kZ BK420.out)); rintro e w' ⟨rfl, ⟨nd, rfl⟩⟩; refine ⟨_, rfl, ?_⟩))
  go_ret2
  exact ⟨eZ, bZ⟩
def spec_l30Cell.f (k : Nat) (a0 : Int) (a1 : Int) : Option (ByteArray) := if a1 = 0 then ((spec_l01Dec.f k a0).bind fun t423 => (some t423)) else (some (⟨#[45]⟩ : ByteArray))
set_option maxHeartbeats 8000000 in
set_option maxRecDepth 100000 in
theorem spec_l30Cell.calls (k : Nat) (a0 : Int) (a1 : Int) (r : ByteArray) (w : World) (h : spec_l30Cell.f k a0 a1 = some r) :
  Calls Tryz.prog 48 #[.int .i64 a0, .int .i64 a1] w fun e w' => e = .returned (.string r) ∧ Below w.heap.size w w' := by
 have HB := Aside0.mk (Below.refl w.heap.size w)
 have H : (if a1 = 0 then ((spec_l01Dec.f k a0).bind fun t423 => (some t423)) else (some (⟨#[45]⟩ : ByteArray))) = some r := h
 clear h
 by_cases c3 : a1 = 0
 ·rw [if_pos c3] at H
  have c3b0 : (a1 == 0) = true := beq_iff_eq.mpr c3
  have c3b1 : (a1 != 0) = false := bne_eq_false_iff_eq.mpr c3
  clear c3
  replace H := Option.bind_eq_some_iff.mp H
  obtain ⟨t423, A40, H⟩ := H
  replace H : (some t423) = some r := H
  have A4 := Aside0.mk A40
  clear A40
  obtain rfl := Option.some.inj H
  go_enter Tryz.func48, Tryz.ntmps48
  go_wp2_with (first | ((with_reducible refine gate_callee (f := 34) rfl ?_); refine goesL_ (some 8) rfl rfl Tryz.func34 (by kernel_rfl) rfl #[.int .i64 a0] rfl gZ ?_; (with_reducible refine (spec_l01Dec.calls k a0 t423 _ A4.out).mono ?_); rintro e w5 ⟨rfl, hb⟩; refine ⟨_, rfl, ?_⟩; have n0_ := Aside0.mk (below_step bZ hb); clear HB; have HB := n0_; clear n0_; (try clear hb); (try clear hb2); (try clear hk); (try clear hi)))
  go_ret
  exact ⟨eZ, bZ⟩
 ·rw [if_neg c3] at H
  have c3b0 : (a1 == 0) = false := beq_eq_false_iff_ne.mpr c3
  have c3b1 : (a1 != 0) = true := bne_iff_ne.mpr c3
  obtain rfl := Option.some.inj H
  go_enter Tryz.func48, Tryz.ntmps48
  go_wp2
  go_ret
  exact ⟨eZ, bZ⟩
end Go.Proofs.YtadaegehdcngdaaGreatDoor.XV
end

section
namespace Go.Proofs.YtadaegehdcngdaaGreatDoor.XV
open Go.RowKit Go.Proofs.YtadaegehdcngdaaGreatDoorW.PrintWords Go.Proofs.YtadaegehdcngdaaGreatDoorW.PrintLast Go.Proofs.YtadaegehdcngdaaGreatDoorW.PrintMore
attribute [local go_sem] run_eql_slice_nil binOp_string_gtr' binOp_string_leq' binOp_string_geq' max2_int min2_int max_two min_two max_three min_three max_four min_four   -- for this text's walks alone
set_option linter.unusedVariables false
set_option linter.unusedSimpArgs false
def spec_PipeReport.l0 : Nat → List Int → List (List ByteArray) → Int → List Int → List (S58) → Option (List ByteArray × Int)
 | 0, _, _, _, _, _ => none
 | k + 1, x1, x6, x7, x425000, x425001 => if x7 < (x425001.length : Int) then (if 0 ≤ x7 then (if x7 < (x1.length : Int) then ((spec_DropOf.f k ((rd_T58 x425001 x7).f0) ((rd_T58 x425001 x7).f1) ((rd_T58 x425001 x7).f2) ((rd_T58 x425001 x7).f3) ((rd_T58 x425001 x7).f4) ((rd_T58 x425001 x7).f5) (rd x1 x7)).bind fun bt442 => ((spec_DelayOf.f k ((rd_T58 x425001 x7).f0) ((rd_T58 x425001 x7).f1) ((rd_T58 x425001 x7).f2) ((rd_T58 x425001 x7).f3) ((rd_T58 x425001 x7).f4) ((rd_T58 x425001 x7).f5) (rd x1 x7)).bind fun bt446 => ((spec_l01Dec.f k (rd x1 x7)).bind fun t450 => ((spec_l30Cell.f k bt442.1 bt442.2).bind fun t451 => ((spec_l30Cell.f k bt446.1 bt446.2).bind fun t452 => (if x6.length < 5864062014805 then (spec_PipeReport.l0 k x1 (x6 ++ [(([(rd_T58 x425001 x7).f0, t450, t451, t452] : List ByteArray))]) (wrap64 (x7 + 1)) x425000 x425001) else (none))))))) else (none)) else (none)) else ((spec_l30Table.f k x6).bind fun t433 => ((spec_l30Done.f k t433).bind fun bt436 => (some (bt436.1, bt436.2))))
def spec_PipeReport.f (k : Nat) (l0_0 : List Int) (l0_1 : List (S58)) (l1 : List Int) : Option (List ByteArray × Int) := (spec_l04Ok.f k l0_0 l0_1).bind fun t425 => (if t425 = true then ((spec_l30Flows.f k l0_0 l0_1 l1).bind fun t426 => (if t426 = true then (spec_PipeReport.l0 k l1 (([(([(⟨#[112, 105, 112, 101]⟩ : ByteArray), (⟨#[102, 108, 111, 119]⟩ : ByteArray), (⟨#[100, 114, 111, 112]⟩ : ByteArray), (⟨#[100, 101, 108, 97, 121]⟩ : ByteArray)] : List ByteArray))] : List (List ByteArray))) 0 l0_0 l0_1) else (some (([] : List ByteArray), 2)))) else (some (([] : List ByteArray), 1)))
def spec_PipeReport.T9 : Bool × List (List Nat × List Nat) := (true, [([], []), ([0], [0]), ([], []), ([1, 2], [1, 2]), ([3], [3]), ([], []), ([], []), ([5, 6], [5, 6]), ([7], [7]), ([4, 8], [4, 8]), ([9], [9]), ([10], [10]), ([10], [10]), ([11, 9, 0, 1, 2, 3, 4, 5, 6, 7, 8, 9, 10, 11], [11]), ([12, 13, 0, 1, 2, 3, 4, 5, 6, 7, 8, 9, 10, 11, 12, 13], [12])])
def spec_PipeReport.B9 : List Nat := [0, 1, 0, 7, 15, 0, 0, 96, 224, 511, 1023, 2047, 2047, 4095, 16383]
theorem spec_PipeReport.tab9 : rtab .any (opsOf Tryz.f18 9) = spec_PipeReport.T9 := by kernel_rfl
theorem spec_PipeReport.bits9 : waitsOk spec_PipeReport.T9.2 spec_PipeReport.B9 = true := by kernel_rfl
def spec_PipeReport.T10 : Bool × List (List Nat × List Nat) := (true, [([], []), ([0], [0]), ([], []), ([1, 2], [1, 2]), ([3], [3]), ([], []), ([], []), ([5, 6], [5, 6]), ([7], [7]), ([4, 8], [4, 8]), ([9], [9]), ([10], [10]), ([10], [10]), ([11, 9, 0, 1, 2, 3, 4, 5, 6, 7, 8, 9, 10, 11], [11]), ([12, 13, 0, 1, 2, 3, 4, 5, 6, 7, 8, 9, 10, 11, 12, 13], [12])])
def spec_PipeReport.B10 : List Nat := [0, 1, 0, 7, 15, 0, 0, 96, 224, 511, 1023, 2047, 2047, 4095, 16383]
theorem spec_PipeReport.tab10 : rtab .any (opsOf Tryz.f18 10) = spec_PipeReport.T10 := by kernel_rfl
theorem spec_PipeReport.bits10 : waitsOk spec_PipeReport.T10.2 spec_PipeReport.B10 = true := by kernel_rfl
def spec_PipeReport.T11 : Bool × List (List Nat × List Nat) := (true, [([], []), ([], []), ([1], [1]), ([], []), ([2, 3], [2, 3]), ([4], [4]), ([5], [5]), ([], []), ([], []), ([7, 8], [7, 8]), ([9], [9]), ([10], [10]), ([], []), ([], []), ([12, 13, 11], [12, 13]), ([], []), ([], []), ([15, 16, 14], [15, 16]), ([6, 11, 14, 17], [6, 11, 14, 17]), ([18], [18]), ([0, 19, 17], [0, 19]), ([20, 20, 0, 1, 2, 3, 4, 5, 6, 7, 8, 9, 10, 11, 12, 13, 14, 15, 16, 17, 18, 19, 20], [0, 20])])
def spec_PipeReport.B11 : List Nat := [0, 0, 2, 0, 14, 30, 62, 0, 0, 384, 896, 1920, 0, 0, 16256, 0, 0, 130944, 262142, 524286, 1048575, 2097151]
theorem spec_PipeReport.tab11 : rtab .any (opsOf Tryz.f18 11) = spec_PipeReport.T11 := by kernel_rfl
theorem spec_PipeReport.bits11 : waitsOk spec_PipeReport.T11.2 spec_PipeReport.B11 = true := by kernel_rfl
set_option maxHeartbeats 8000000 in
set_option maxRecDepth 100000 in
theorem spec_PipeReport.calls (k : Nat) (A0_0 : Option Addr) (c0_0 : Nat) (l0_0 : List Int) (A0_1 : Option Addr) (c0_1 : Nat) (l0_1 : List (S58)) (A1 : Option Addr) (c1 : Nat) (l1 : List Int) (r1 : List ByteArray) (r2 : Int) (w : World) (hr0_0 : Kd.C (Kd.int .i64) w A0_0 l0_0.length l0_0) (hc0_0 : l0_0.length ≤ c0_0) (hr0_1 : Kd.C k58 w A0_1 l0_1.length l0_1) (hc0_1 : l0_1.length ≤ c0_1) (hr1 : Kd.C (Kd.int .i64) w A1 l1.length l1) (hc1 : l1.length ≤ c1) (h : spec_PipeReport.f k l0_0 l0_1 l1 = some (r1, r2)) :
  Calls Tryz.prog 18 #[.agg #[.slice A0_0 l0_0.length c0_0, .slice A0_1 l0_1.length c0_1], .slice A1 l1.length c1] w fun e w' => ∃ v0_ : Value, e = .returned (.tuple #[v0_, .int .i64 r2]) ∧ Kd.R Kd.string 9 w' w.heap.size (fun _ => True) v0_ r1 ∧ Below w.heap.size w w' := by
 have hu32 := Tryz.underlying32
 have hu58 := Tryz.underlying58
 have HR0_0 := Aside0.mk hr0_0
 have HC0_0 := Aside0.mk hc0_0
 clear hr0_0 hc0_0
 have HR0_1 := Aside0.mk hr0_1
 have HC0_1 := Aside0.mk hc0_1
 clear hr0_1 hc0_1
 have HR1 := Aside0.mk hr1
 have HC1 := Aside0.mk hc1
 clear hr1 hc1
 have HB := Aside0.mk (Below.refl w.heap.size w)
 have H : ((spec_l04Ok.f k l0_0 l0_1).bind fun t425 => (if t425 = true then ((spec_l30Flows.f k l0_0 l0_1 l1).bind fun t426 => (if t426 = true then (spec_PipeReport.l0 k l1 (([(([(⟨#[112, 105, 112, 101]⟩ : ByteArray), (⟨#[102, 108, 111, 119]⟩ : ByteArray), (⟨#[100, 114, 111, 112]⟩ : ByteArray), (⟨#[100, 101, 108, 97, 121]⟩ : ByteArray)] : List ByteArray))] : List (List ByteArray))) 0 l0_0 l0_1) else (some (([] : List ByteArray), 2)))) else (some (([] : List ByteArray), 1)))) = some (r1, r2) := h
 clear h
 replace H := Option.bind_eq_some_iff.mp H
 obtain ⟨t425, A30, H⟩ := H
 replace H : (if t425 = true then ((spec_l30Flows.f k l0_0 l0_1 l1).bind fun t426 => (if t426 = true then (spec_PipeReport.l0 k l1 (([(([(⟨#[112, 105, 112, 101]⟩ : ByteArray), (⟨#[102, 108, 111, 119]⟩ : ByteArray), (⟨#[100, 114, 111, 112]⟩ : ByteArray), (⟨#[100, 101, 108, 97, 121]⟩ : ByteArray)] : List ByteArray))] : List (List ByteArray))) 0 l0_0 l0_1) else (some (([] : List ByteArray), 2)))) else (some (([] : List ByteArray), 1))) = some (r1, r2) := H
 have A3 := Aside0.mk A30
 clear A30
 by_cases c4 : t425 = true
 ·subst c4
  have H1 : ((spec_l30Flows.f k l0_0 l0_1 l1).bind fun t426 => (if t426 = true then (spec_PipeReport.l0 k l1 (([(([(⟨#[112, 105, 112, 101]⟩ : ByteArray), (⟨#[102, 108, 111, 119]⟩ : ByteArray), (⟨#[100, 114, 111, 112]⟩ : ByteArray), (⟨#[100, 101, 108, 97, 121]⟩ : ByteArray)] : List ByteArray))] : List (List ByteArray))) 0 l0_0 l0_1) else (some (([] : List ByteArray), 2)))) = some (r1, r2) := by rw [if_pos rfl] at H; exact H
  clear H
  have H := H1
  clear H1
  replace H := Option.bind_eq_some_iff.mp H
  obtain ⟨t426, A50, H⟩ := H
  replace H : (if t426 = true then (spec_PipeReport.l0 k l1 (([(([(⟨#[112, 105, 112, 101]⟩ : ByteArray), (⟨#[102, 108, 111, 119]⟩ : ByteArray), (⟨#[100, 114, 111, 112]⟩ : ByteArray), (⟨#[100, 101, 108, 97, 121]⟩ : ByteArray)] : List ByteArray))] : List (List ByteArray))) 0 l0_0 l0_1) else (some (([] : List ByteArray), 2))) = some (r1, r2) := H
  have A5 := Aside0.mk A50
  clear A50
  by_cases c6 : t426 = true
  ·subst c6
   have H1 : (spec_PipeReport.l0 k l1 (([(([(⟨#[112, 105, 112, 101]⟩ : ByteArray), (⟨#[102, 108, 111, 119]⟩ : ByteArray), (⟨#[100, 114, 111, 112]⟩ : ByteArray), (⟨#[100, 101, 108, 97, 121]⟩ : ByteArray)] : List ByteArray))] : List (List ByteArray))) 0 l0_0 l0_1) = some (r1, r2) := by rw [if_pos rfl] at H; exact H
   clear H
   have H := H1
   clear H1
   obtain ⟨y427, hy427⟩ : ∃ y_ : List ByteArray, y_ = (([(⟨#[112, 105, 112, 101]⟩ : ByteArray), (⟨#[102, 108, 111, 119]⟩ : ByteArray), (⟨#[100, 114, 111, 112]⟩ : ByteArray), (⟨#[100, 101, 108, 97, 121]⟩ : ByteArray)] : List ByteArray)) := ⟨_, rfl⟩
   replace H : (spec_PipeReport.l0 k l1 (([y427] : List (List ByteArray))) 0 l0_0 l0_1) = some (r1, r2) := by first | (rw [hy427]; with_reducible exact H) | (have H2_ := (Option.bind_some _ _).symm.trans H; rw [hy427]; with_reducible exact H2_) | (have H2_ := (Option.bind_some _ _).symm.trans H; with_reducible exact H2_) | with_reducible exact H | (rw [hy427]; exact H) | exact H
   have Ny427 := Aside0.mk hy427
   clear hy427
   obtain ⟨y430, hy430⟩ : ∃ y_ : List (List ByteArray), y_ = (([y427] : List (List ByteArray))) := ⟨_, rfl⟩
   replace H : (spec_PipeReport.l0 k l1 y430 0 l0_0 l0_1) = some (r1, r2) := by first | (rw [hy430]; with_reducible exact H) | (have H2_ := (Option.bind_some _ _).symm.trans H; rw [hy430]; with_reducible exact H2_) | (have H2_ := (Option.bind_some _ _).symm.trans H; with_reducible exact H2_) | with_reducible exact H | (rw [hy430]; exact H) | exact H
   have Ny430 := Aside0.mk hy430
   clear hy430
   have H' := Aside0.mk H
   clear H
   go_enter Tryz.func18, Tryz.ntmps18
   go_wp2_with (first | ((with_reducible refine gate_dst (N := 2) rfl ?_); refine boxZ 2 #[.slice A0_0 l0_0.length c0_0, .slice A0_1 l0_1.length c0_1] 32 rfl rfl ?_; intro gb424 hg w7 hbox hb; have n0_ := Aside0.mk (below_step bZ hb); have n1_ := Aside0.mk (hbox); have n2_ := Aside0.mk ((by rw [hg]; exact bsZ : w.heap.size ≤ gb424)); have n3_ := Aside0.mk ((by rw [hg]; exact bsZ : w.heap.size ≤ gb424)); clear HB; have HB := n0_; have BK424 := n1_; have GW424 := n2_; have GE424 := n3_; clear n0_ n1_ n2_ n3_; clear hb hbox hg) | ((with_reducible refine gate_callee (f := 31) rfl ?_); refine goesL_ (some 12) rfl rfl Tryz.func31 (by kernel_rfl) rfl #[.pointer (some ⟨gb424, 0, none⟩)] rfl gZ ?_; (with_reducible refine (spec_l04Ok.calls k _ A0_0 c0_0 l0_0 A0_1 c0_1 l0_1 true _ ?side1 ?side2 ?side3 ?side4 ?side5 A3.out).mono ?_); (case side1 => repeat (first | exact (Kd.C_below HR0_0.out HB.out) | (with_reducible refine Kd.C_alloc ?_ _) | (with_reducible refine Kd.C_drewN ?_ _) | (with_reducible refine Kd.C_drew ?_))); (case side2 => exact HC0_0.out); (case side3 => repeat (first | exact (Kd.C_below HR0_1.out HB.out) | (with_reducible refine Kd.C_alloc ?_ _) | (with_reducible refine Kd.C_drewN ?_ _) | (with_reducible refine Kd.C_drew ?_))); (case side4 => exact HC0_1.out); (case side5 => exact ViewAt.of_blk (kZ BK424.out)); rintro e w' ⟨rfl, ⟨nd, rfl⟩⟩; refine ⟨_, rfl, ?_⟩) | ((with_reducible refine gate_callee (f := 32) rfl ?_); refine goesL_ (some 15) rfl rfl Tryz.func32 (by kernel_rfl) rfl #[.pointer (some ⟨gb424, 0, none⟩), .slice A1 l1.length c1] rfl gZ ?_; (with_reducible refine (spec_l30Flows.calls k _ A0_0 c0_0 l0_0 A0_1 c0_1 l0_1 _ _ l1 true _ ?side1 ?side2 ?side3 ?side4 ?side5 ?side6 ?side7 A5.out).mono ?_); (case side1 => repeat (first | exact (Kd.C_below HR0_0.out bZ) | (with_reducible refine Kd.C_alloc ?_ _) | (with_reducible refine Kd.C_drewN ?_ _) | (with_reducible refine Kd.C_drew ?_))); (case side2 => exact HC0_0.out); (case side3 => repeat (first | exact (Kd.C_below HR0_1.out bZ) | (with_reducible refine Kd.C_alloc ?_ _) | (with_reducible refine Kd.C_drewN ?_ _) | (with_reducible refine Kd.C_drew ?_))); (case side4 => exact HC0_1.out); (case side5 => repeat (first | exact (Kd.C_below HR1.out bZ) | (with_reducible refine Kd.C_alloc ?_ _) | (with_reducible refine Kd.C_drewN ?_ _) | (with_reducible refine Kd.C_drew ?_))); (case side6 => exact HC1.out); (case side7 => exact ViewAt.of_blk (kZ BK424.out)); rintro e w' ⟨rfl, ⟨nd, rfl⟩⟩; refine ⟨_, rfl, ?_⟩) | ((with_reducible refine gate_dst (N := 17) rfl ?_); refine Kd.R_lit Kd.string _ 9 ?hg (N := 17) ?hd (xs := ([(⟨#[112, 105, 112, 101]⟩ : ByteArray), (⟨#[102, 108, 111, 119]⟩ : ByteArray), (⟨#[100, 114, 111, 112]⟩ : ByteArray), (⟨#[100, 101, 108, 97, 121]⟩ : ByteArray)] : List ByteArray)) (inner := [.string (⟨#[112, 105, 112, 101]⟩ : ByteArray), .string (⟨#[102, 108, 111, 119]⟩ : ByteArray), .string (⟨#[100, 114, 111, 112]⟩ : ByteArray), .string (⟨#[100, 101, 108, 97, 121]⟩ : ByteArray)]) (ok := fun _ => True) (okp := fun _ => True) ?hr ?hp (fun _ hk => hk) trivial (Below.refl _ _) (Nat.le_refl _) (by simp) ?_; (case hd => rfl); (case hg => rfl); (case hr => first | (go_simp; done) | (go_simp; rfl)); (case hp => exact (Reps.one (show Kd.M Kd.string _ _ _ (⟨#[112, 105, 112, 101]⟩ : ByteArray) [.string (⟨#[112, 105, 112, 101]⟩ : ByteArray)] from rfl) (Reps.one (show Kd.M Kd.string _ _ _ (⟨#[102, 108, 111, 119]⟩ : ByteArray) [.string (⟨#[102, 108, 111, 119]⟩ : ByteArray)] from rfl) (Reps.one (show Kd.M Kd.string _ _ _ (⟨#[100, 114, 111, 112]⟩ : ByteArray) [.string (⟨#[100, 114, 111, 112]⟩ : ByteArray)] from rfl) (Reps.one (show Kd.M Kd.string _ _ _ (⟨#[100, 101, 108, 97, 121]⟩ : ByteArray) [.string (⟨#[100, 101, 108, 97, 121]⟩ : ByteArray)] from rfl) (Reps.none _ _)))))); intro v428 w8 ho9 hb hg_ hnew_; clear hg_ hnew_; (first | rw [← Ny427.out] at ho9 | (simp only [Int.reduceToNat] at ho9; rw [← Ny427.out] at ho9)); have n0_ := Aside0.mk (Kd.R_lower ho9 bsZ); have n1_ := Aside0.mk (blk_below (g := gb424) (o := .cells #[.slice A0_0 l0_0.length c0_0, .slice A0_1 l0_1.length c0_1] 32 (0, 0)) (kZ BK424.out) hb); have n2_ := Aside0.mk (below_step bZ hb); clear BK424; clear HB; have HO429 := n0_; have BK424 := n1_; have HB := n2_; clear n0_ n1_ n2_; clear hb ho9; obtain ⟨Ao10, co10, eo10⟩ := Kd.R_slice HO429.out; subst eo10) | ((with_reducible refine gate_dst (N := 18) rfl ?_); refine Kd.N_lit (Kd.slice 9 Kd.string) _ 27 ?hg (N' := 18) ?hd (xs := ([y427] : List (List ByteArray))) (inner := [.slice Ao10 y427.length co10]) (ok := (fun k_ => k_ ≠ gb424)) (okp := (fun k_ => k_ ≠ gb424)) ?hr ?hp (fun _ hk => hk) ((show ∀ k_, w8.heap.size ≤ k_ → (fun k_ => k_ ≠ gb424) k_ from fun k_ hk => Kd.freshB (g := gb424) (o := .cells #[.slice A0_0 l0_0.length c0_0, .slice A0_1 l0_1.length c0_1] 32 (0, 0)) (kZ BK424.out) k_ hk) _ (Nat.le_refl _)) (Below.refl _ _) (Nat.le_refl _) (by simp) ?_; (case hd => rfl); (case hg => rfl); (case hr => first | (go_simp; done) | (go_simp; rfl)); (case hp => exact (Reps.one (show Kd.FK (Kd.slice 9 Kd.string) _ _ y427 [.slice Ao10 y427.length co10] from (Kd.FK_slice_mk (Kd.R_reads' (Kd.R_mono (ok' := (fun k_ => k_ ≠ gb424)) (Kd.R_types (HO429.out) BK424.out (by decide)) (fun k_ hk => hk.2))).2.1 (Kd.R_F (Kd.R_mono (ok' := (fun k_ => k_ ≠ gb424)) (Kd.R_types (HO429.out) BK424.out (by decide)) (fun k_ hk => hk.2))))) (Reps.none _ _))); intro v431 w11 ho12 hb hg_ hnew_; clear hg_ hnew_; (first | rw [← Ny430.out] at ho12 | (simp only [Int.reduceToNat] at ho12; rw [← Ny430.out] at ho12)); have n0_ := Aside0.mk (Kd.N_lower ho12 bsZ); have n1_ := Aside0.mk (blk_below (g := gb424) (o := .cells #[.slice A0_0 l0_0.length c0_0, .slice A0_1 l0_1.length c0_1] 32 (0, 0)) (kZ BK424.out) hb); have n2_ := Aside0.mk (below_step bZ hb); clear BK424; clear HB; clear HO429; have HO432 := n0_; have BK424 := n1_; have HB := n2_; clear n0_ n1_ n2_; clear hb ho12))
   go_loopg [6, 7] k (fun kq v6 v7 w' => ∃ (x6_1 : List (List ByteArray)) (x7_1 : Int), v7 = .int .i64 x7_1 ∧ Aside0 (spec_PipeReport.l0 kq l1 x6_1 x7_1 l0_0 l0_1 = some (r1, r2)) ∧ Aside0 (kq ≤ k) ∧ Aside0 (Kd.N (Kd.slice 9 Kd.string) 27 w' w.heap.size (fun k_ => k_ ≠ gb424) v6 x6_1) ∧ Aside0 (w'.heap[gb424]? = some (.cells #[(.slice A0_0 l0_0.length c0_0), (.slice A0_1 l0_1.length c0_1)] 32 (0, 0))) ∧ Aside0 (Below w.heap.size w w'))
   case atStart => exact ⟨(y430), (0), sZ, H', ⟨Nat.le_refl _⟩, ⟨by (with_reducible repeat (first | apply Kd.N_alloc | apply Kd.N_drewN | apply Kd.N_drew)); exact HO432.out⟩, ⟨kZ BK424.out⟩, ⟨bZ⟩⟩
   case round =>
    clear H'; (try clear c1); (try clear p2); (try clear c3); (try clear c4); (try clear c6)
    obtain ⟨x6_1, x7_1, rfl, HA, HK1, HO_6, BK424, HB⟩ := hrel
    cases gk with
    | zero => exact absurd HA.out (by simp [spec_PipeReport.l0])
    | succ k1 =>
     have H := HA.out
     clear HA
     simp only [spec_PipeReport.l0] at H
     by_cases c13 : x7_1 < (l0_1.length : Int)
     ·rw [if_pos c13] at H
      have c13b0 : decide (x7_1 < (l0_1.length : Int)) = true := decide_eq_true c13
      clear c13
      by_cases c14 : 0 ≤ x7_1
      ·rw [if_pos c14] at H
       have c14b0 : decide (0 ≤ x7_1) = true := decide_eq_true c14
       clear c14
       by_cases c15 : x7_1 < (l1.length : Int)
       ·rw [if_pos c15] at H
        have c15b0 : decide (x7_1 < (l1.length : Int)) = true := decide_eq_true c15
        clear c15
        replace H := Option.bind_eq_some_iff.mp H
        obtain ⟨⟨t442, t443⟩, A160, H⟩ := H
        replace H : ((spec_DelayOf.f k1 ((rd_T58 l0_1 x7_1).f0) ((rd_T58 l0_1 x7_1).f1) ((rd_T58 l0_1 x7_1).f2) ((rd_T58 l0_1 x7_1).f3) ((rd_T58 l0_1 x7_1).f4) ((rd_T58 l0_1 x7_1).f5) (rd l1 x7_1)).bind fun bt446 => ((spec_l01Dec.f k1 (rd l1 x7_1)).bind fun t450 => ((spec_l30Cell.f k1 t442 t443).bind fun t451 => ((spec_l30Cell.f k1 bt446.1 bt446.2).bind fun t452 => (if x6_1.length < 5864062014805 then (spec_PipeReport.l0 k1 l1 (x6_1 ++ [(([(rd_T58 l0_1 x7_1).f0, t450, t451, t452] : List ByteArray))]) (wrap64 (x7_1 + 1)) l0_0 l0_1) else (none)))))) = some (r1, r2) := H
        have A16 := Aside0.mk A160
        clear A160
        replace H := Option.bind_eq_some_iff.mp H
        obtain ⟨⟨t446, t447⟩, A170, H⟩ := H
        replace H : ((spec_l01Dec.f k1 (rd l1 x7_1)).bind fun t450 => ((spec_l30Cell.f k1 t442 t443).bind fun t451 => ((spec_l30Cell.f k1 t446 t447).bind fun t452 => (if x6_1.length < 5864062014805 then (spec_PipeReport.l0 k1 l1 (x6_1 ++ [(([(rd_T58 l0_1 x7_1).f0, t450, t451, t452] : List ByteArray))]) (wrap64 (x7_1 + 1)) l0_0 l0_1) else (none))))) = some (r1, r2) := H
        have A17 := Aside0.mk A170
        clear A170
        replace H := Option.bind_eq_some_iff.mp H
        obtain ⟨t450, A180, H⟩ := H
        replace H : ((spec_l30Cell.f k1 t442 t443).bind fun t451 => ((spec_l30Cell.f k1 t446 t447).bind fun t452 => (if x6_1.length < 5864062014805 then (spec_PipeReport.l0 k1 l1 (x6_1 ++ [(([(rd_T58 l0_1 x7_1).f0, t450, t451, t452] : List ByteArray))]) (wrap64 (x7_1 + 1)) l0_0 l0_1) else (none)))) = some (r1, r2) := H
        have A18 := Aside0.mk A180
        clear A180
        replace H := Option.bind_eq_some_iff.mp H
        obtain ⟨t451, A190, H⟩ := H
        replace H : ((spec_l30Cell.f k1 t446 t447).bind fun t452 => (if x6_1.length < 5864062014805 then (spec_PipeReport.l0 k1 l1 (x6_1 ++ [(([(rd_T58 l0_1 x7_1).f0, t450, t451, t452] : List ByteArray))]) (wrap64 (x7_1 + 1)) l0_0 l0_1) else (none))) = some (r1, r2) := H
        have A19 := Aside0.mk A190
        clear A190
        replace H := Option.bind_eq_some_iff.mp H
        obtain ⟨t452, A200, H⟩ := H
        replace H : (if x6_1.length < 5864062014805 then (spec_PipeReport.l0 k1 l1 (x6_1 ++ [(([(rd_T58 l0_1 x7_1).f0, t450, t451, t452] : List ByteArray))]) (wrap64 (x7_1 + 1)) l0_0 l0_1) else (none)) = some (r1, r2) := H
        have A20 := Aside0.mk A200
        clear A200
        obtain ⟨y453, hy453⟩ : ∃ y_ : List ByteArray, y_ = (([(rd_T58 l0_1 x7_1).f0, t450, t451, t452] : List ByteArray)) := ⟨_, rfl⟩
        replace H : (if x6_1.length < 5864062014805 then (spec_PipeReport.l0 k1 l1 (x6_1 ++ [y453]) (wrap64 (x7_1 + 1)) l0_0 l0_1) else (none)) = some (r1, r2) := by first | (rw [hy453]; with_reducible exact H) | (have H2_ := (Option.bind_some _ _).symm.trans H; rw [hy453]; with_reducible exact H2_) | (have H2_ := (Option.bind_some _ _).symm.trans H; with_reducible exact H2_) | with_reducible exact H | (rw [hy453]; exact H) | exact H
        have Ny453 := Aside0.mk hy453
        clear hy453
        by_cases c21 : x6_1.length < 5864062014805
        ·rw [if_pos c21] at H
         have LMc21 := Aside0.mk c21
         clear c21
         obtain ⟨y456, hy456⟩ : ∃ y_ : List (List ByteArray), y_ = (x6_1 ++ [y453]) := ⟨_, rfl⟩
         replace H : (spec_PipeReport.l0 k1 l1 y456 (wrap64 (x7_1 + 1)) l0_0 l0_1) = some (r1, r2) := by first | (rw [hy456]; with_reducible exact H) | (have H2_ := (Option.bind_some _ _).symm.trans H; rw [hy456]; with_reducible exact H2_) | (have H2_ := (Option.bind_some _ _).symm.trans H; with_reducible exact H2_) | with_reducible exact H | (rw [hy456]; exact H) | exact H
         have Ny456 := Aside0.mk hy456
         clear hy456
         have H' := Aside0.mk H
         clear H
         have hcz22_0 := bc0 BK424.out
         have hcz22_1 := bc1 BK424.out
         have hfz22_0 := blk_frozen BK424.out 0
         have hfz22_1 := blk_frozen BK424.out 1
         try go_wp2
         have n0_ := Aside0.mk (Kd.N_drew HO_6.out)
         have n1_ := Aside0.mk (blk_drew BK424.out)
         have n2_ := Aside0.mk (below_drew1 HB.out)
         clear HO_6; clear BK424; clear HB
         have HO_6 := n0_
         have BK424 := n1_
         have HB := n2_
         clear n0_ n1_ n2_
         have p440 : 0 ≤ (x7_1 : Int) := oZ
         have q440 : x7_1 < (l0_1.length : Int) := oZ
         obtain ⟨ad440, e440, hx440_0, hx440_1, hx440_2, hx440_3, hx440_4, hx440_5⟩ := at_T58 HR0_1.out x7_1 p440 q440
         have hw440_5 := hx440_5
         have hw440_4 := hx440_4
         have hw440_3 := hx440_3
         have hw440_2 := hx440_2
         have hw440_1 := hx440_1
         have hw440_0 := hx440_0
         cases e440
         replace hx440_0 := (HB.out.cell (World.block_lt_of_cell? w _ hx440_0)).trans hx440_0
         replace hx440_1 := (HB.out.cell (World.block_lt_of_cell? w _ hx440_1)).trans hx440_1
         replace hx440_2 := (HB.out.cell (World.block_lt_of_cell? w _ hx440_2)).trans hx440_2
         replace hx440_3 := (HB.out.cell (World.block_lt_of_cell? w _ hx440_3)).trans hx440_3
         replace hx440_4 := (HB.out.cell (World.block_lt_of_cell? w _ hx440_4)).trans hx440_4
         replace hx440_5 := (HB.out.cell (World.block_lt_of_cell? w _ hx440_5)).trans hx440_5
         replace p440 := eq_true p440
         replace q440 := eq_true q440
         have p441 : 0 ≤ (x7_1 : Int) := oZ
         have q441 : x7_1 < (l1.length : Int) := oZ
         obtain ⟨ad441, e441, hx441_0⟩ := Kd.at_int HR1.out x7_1 p441 q441
         have hw441_0 := hx441_0
         cases e441
         replace hx441_0 := (HB.out.cell (World.block_lt_of_cell? w _ hx441_0)).trans hx441_0
         replace p441 := eq_true p441
         replace q441 := eq_true q441
         refine start_ (n := 15) (S := fun w' => w'.cell? ⟨gb424, 0, none⟩ = some (.slice A0_0 l0_0.length c0_0) ∧ w'.cell? ⟨gb424, 1, none⟩ = some (.slice (some ad440) l0_1.length c0_1) ∧ w'.cell? (ad440.add ((x7_1).toNat * 6)) = some (.string ((rd_T58 l0_1 x7_1).f0)) ∧ w'.cell? ⟨(ad440.add ((x7_1).toNat * 6)).block, (ad440.add ((x7_1).toNat * 6)).off + 1, none⟩ = some (.int .i64 ((rd_T58 l0_1 x7_1).f1)) ∧ w'.cell? ⟨(ad440.add ((x7_1).toNat * 6)).block, (ad440.add ((x7_1).toNat * 6)).off + 2, none⟩ = some (.int .i64 ((rd_T58 l0_1 x7_1).f2)) ∧ w'.cell? ⟨(ad440.add ((x7_1).toNat * 6)).block, (ad440.add ((x7_1).toNat * 6)).off + 3, none⟩ = some (.int .i64 ((rd_T58 l0_1 x7_1).f3)) ∧ w'.cell? ⟨(ad440.add ((x7_1).toNat * 6)).block, (ad440.add ((x7_1).toNat * 6)).off + 4, none⟩ = some (.int .i64 ((rd_T58 l0_1 x7_1).f4)) ∧ w'.cell? ⟨(ad440.add ((x7_1).toNat * 6)).block, (ad440.add ((x7_1).toNat * 6)).off + 5, none⟩ = some (.int .i64 ((rd_T58 l0_1 x7_1).f5)) ∧ w'.cell? (ad441.add (x7_1).toNat) = some (.int .i64 (rd l1 x7_1))) (ds := []) #[false, false, false, false, false, false, false, false, false, false, false, false, false, false, false] (by kernel_rfl) rfl rfl ⟨(blk_cell BK424.out 0).trans rfl, (blk_cell BK424.out 1).trans rfl, ((HB.out.cell (World.block_lt_of_cell? w _ hw440_0)).trans hw440_0), ((HB.out.cell (World.block_lt_of_cell? w _ hw440_1)).trans hw440_1), ((HB.out.cell (World.block_lt_of_cell? w _ hw440_2)).trans hw440_2), ((HB.out.cell (World.block_lt_of_cell? w _ hw440_3)).trans hw440_3), ((HB.out.cell (World.block_lt_of_cell? w _ hw440_4)).trans hw440_4), ((HB.out.cell (World.block_lt_of_cell? w _ hw440_5)).trans hw440_5), ((HB.out.cell (World.block_lt_of_cell? w _ hw441_0)).trans hw441_0)⟩ (fun hHeld => ?_); refine with_tabW spec_PipeReport.tab9 spec_PipeReport.bits9 (fun HT_ HW_ => ?_)
         generalize wr.drew = w23 at HO_6 BK424 HB hx440_0 hx440_1 hx440_2 hx440_3 hx440_4 hx440_5 hx441_0 hHeld ⊢
         refine puZ 0 (some 27) #[true, false, false, false, false, false, false, false, false, false, false, false, false, false, false] rfl rfl HT_.out ?_
         refine puZ 2 (some 29) #[true, false, true, false, false, false, false, false, false, false, false, false, false, false, false] rfl rfl HT_.out ?_
         refine puZ 5 (some 32) #[true, false, true, false, false, true, false, false, false, false, false, false, false, false, false] rfl rfl HT_.out ?_
         refine puZ 6 (some 33) #[true, false, true, false, false, true, true, false, false, false, false, false, false, false, false] rfl rfl HT_.out ?_
         refine puZ 7 (some 34) #[true, false, true, false, false, true, true, true, false, false, false, false, false, false, false] rfl rfl HT_.out ?_
         refine take_ (i := 1) (N := some 28) (v := ?_) (a' := ?_) #[true, true, true, false, false, true, true, true, false, false, false, false, false, false, false] rfl rfl (take_ofW HT_.out HW_.out (by kernel_rfl)) (fun _ _ _ h => h) (Or.inl ⟨by rfl, ?_⟩) hHeld ?_ ?_
         rotate_left
         ·rintro w' ⟨s0, s1, s2, s3, s4, s5, s6, s7, s8⟩
          go_simp
          with_reducible rfl
         rotate_left
         ·simp only [Act.put, List.setIfInBounds_toArray, List.set_cons_zero, List.set_cons_succ, i64_w, i32_w]
          rfl
         refine puZ 3 (some 30) #[true, true, true, true, false, true, true, true, false, false, false, false, false, false, false] rfl rfl HT_.out ?_
         refine take_ (i := 4) (N := some 31) (v := ?_) (a' := ?_) #[true, true, true, true, true, true, true, true, false, false, false, false, false, false, false] rfl rfl (take_ofW HT_.out HW_.out (by kernel_rfl)) (fun _ _ _ h => h) (Or.inl ⟨by rfl, ?_⟩) hHeld ?_ ?_
         rotate_left
         ·rintro w' ⟨s0, s1, s2, s3, s4, s5, s6, s7, s8⟩
          go_simp
          with_reducible rfl
         rotate_left
         ·simp only [Act.put, List.setIfInBounds_toArray, List.set_cons_zero, List.set_cons_succ, i64_w, i32_w]
          rfl
         refine take_ (i := 8) (N := some 35) (v := ?_) (a' := ?_) #[true, true, true, true, true, true, true, true, true, false, false, false, false, false, false] rfl rfl (take_ofW HT_.out HW_.out (by kernel_rfl)) (fun _ _ _ h => h) (Or.inl ⟨by rfl, ?_⟩) hHeld ?_ ?_
         rotate_left
         ·rintro w' ⟨s0, s1, s2, s3, s4, s5, s6, s7, s8⟩
          go_simp
          with_reducible rfl
         rotate_left
         ·simp only [Act.put, List.setIfInBounds_toArray, List.set_cons_zero, List.set_cons_succ, i64_w, i32_w]
          rfl
         refine one_ (i := 9) (N := some 36) #[true, true, true, true, true, true, true, true, true, true, false, false, false, false, false] rfl rfl (one_of HT_.out (by kernel_rfl)) (by decide) (fun K hK => ?_)
         refine goes_ Tryz.func46 (by kernel_rfl) rfl #[.agg #[.string ((rd_T58 l0_1 x7_1).f0), .int .i64 ((rd_T58 l0_1 x7_1).f1), .int .i64 ((rd_T58 l0_1 x7_1).f2), .int .i64 ((rd_T58 l0_1 x7_1).f3), .int .i64 ((rd_T58 l0_1 x7_1).f4), .int .i64 ((rd_T58 l0_1 x7_1).f5)], .int .i64 (rd l1 x7_1)] (by rfl) rfl rfl gZ ?_
         with_reducible refine (spec_DropOf.calls k1 ((rd_T58 l0_1 x7_1).f0) ((rd_T58 l0_1 x7_1).f1) ((rd_T58 l0_1 x7_1).f2) ((rd_T58 l0_1 x7_1).f3) ((rd_T58 l0_1 x7_1).f4) ((rd_T58 l0_1 x7_1).f5) (rd l1 x7_1) t442 t443 _ A16.out).mono ?_
         rintro e w24 ⟨rfl, hb⟩
         refine ⟨_, rfl, ?_⟩
         have n0_ := Aside0.mk (Kd.N_below (by (with_reducible repeat (first | apply Kd.N_alloc | apply Kd.N_drewN | apply Kd.N_drew)); exact HO_6.out) hb)
         have n1_ := Aside0.mk (blk_below (g := gb424) (o := .cells #[.slice A0_0 l0_0.length c0_0, .slice (some ad440) l0_1.length c0_1] 32 (0, 0)) (kZ BK424.out) hb)
         have n2_ := Aside0.mk (below_step bZ hb)
         clear HO_6; clear BK424; clear HB
         have HO_6 := n0_
         have BK424 := n1_
         have HB := n2_
         clear n0_ n1_ n2_
         (try clear hb)
         (try clear hb2)
         (try clear hk)
         (try clear hi)
         refine hK.out _ _ ⟨(blk_cell BK424.out 0).trans rfl, (blk_cell BK424.out 1).trans rfl, ((HB.out.cell (World.block_lt_of_cell? w _ hw440_0)).trans hw440_0), ((HB.out.cell (World.block_lt_of_cell? w _ hw440_1)).trans hw440_1), ((HB.out.cell (World.block_lt_of_cell? w _ hw440_2)).trans hw440_2), ((HB.out.cell (World.block_lt_of_cell? w _ hw440_3)).trans hw440_3), ((HB.out.cell (World.block_lt_of_cell? w _ hw440_4)).trans hw440_4), ((HB.out.cell (World.block_lt_of_cell? w _ hw440_5)).trans hw440_5), ((HB.out.cell (World.block_lt_of_cell? w _ hw441_0)).trans hw441_0)⟩ (fun hHeld => ?_)
         clear hK K
         refine norm_ (a' := ?_) ?_ ?_
         rotate_left
         ·show Act.put _ (some 36) _ = _
          simp only [Act.put, List.setIfInBounds_toArray, List.set_cons_zero, List.set_cons_succ, i64_w, i32_w]
          rfl
         refine puZ 10 (some 26) #[true, true, true, true, true, true, true, true, true, true, true, false, false, false, false] rfl rfl HT_.out ?_
         refine puZ 11 (some 37) #[true, true, true, true, true, true, true, true, true, true, true, true, false, false, false] rfl rfl HT_.out ?_
         refine puZ 12 (some 38) #[true, true, true, true, true, true, true, true, true, true, true, true, true, false, false] rfl rfl HT_.out ?_
         refine puZ 13 (some 8) #[true, true, true, true, true, true, true, true, true, true, true, true, true, true, false] rfl rfl HT_.out ?_
         refine puZ 14 (some 9) #[true, true, true, true, true, true, true, true, true, true, true, true, true, true, true] rfl rfl HT_.out ?_
         refine done_ (done_of HT_.out (by kernel_rfl)) ?_
         try go_wp2
         have n0_ := Aside0.mk (Kd.N_drew HO_6.out)
         have n1_ := Aside0.mk (blk_drew BK424.out)
         have n2_ := Aside0.mk (below_drew1 HB.out)
         clear HO_6; clear BK424; clear HB
         have HO_6 := n0_
         have BK424 := n1_
         have HB := n2_
         clear n0_ n1_ n2_
         have p444 : 0 ≤ (x7_1 : Int) := oZ
         have q444 : x7_1 < (l0_1.length : Int) := oZ
         obtain ⟨ad444, e444, hx444_0, hx444_1, hx444_2, hx444_3, hx444_4, hx444_5⟩ := at_T58 HR0_1.out x7_1 p444 q444
         have hw444_5 := hx444_5
         have hw444_4 := hx444_4
         have hw444_3 := hx444_3
         have hw444_2 := hx444_2
         have hw444_1 := hx444_1
         have hw444_0 := hx444_0
         obtain rfl : ad440 = ad444 := (by injection e444)
         replace hx444_0 := (HB.out.cell (World.block_lt_of_cell? w _ hx444_0)).trans hx444_0
         replace hx444_1 := (HB.out.cell (World.block_lt_of_cell? w _ hx444_1)).trans hx444_1
         replace hx444_2 := (HB.out.cell (World.block_lt_of_cell? w _ hx444_2)).trans hx444_2
         replace hx444_3 := (HB.out.cell (World.block_lt_of_cell? w _ hx444_3)).trans hx444_3
         replace hx444_4 := (HB.out.cell (World.block_lt_of_cell? w _ hx444_4)).trans hx444_4
         replace hx444_5 := (HB.out.cell (World.block_lt_of_cell? w _ hx444_5)).trans hx444_5
         replace p444 := eq_true p444
         replace q444 := eq_true q444
         have p445 : 0 ≤ (x7_1 : Int) := oZ
         have q445 : x7_1 < (l1.length : Int) := oZ
         obtain ⟨ad445, e445, hx445_0⟩ := Kd.at_int HR1.out x7_1 p445 q445
         have hw445_0 := hx445_0
         obtain rfl : ad441 = ad445 := (by injection e445)
         replace hx445_0 := (HB.out.cell (World.block_lt_of_cell? w _ hx445_0)).trans hx445_0
         replace p445 := eq_true p445
         replace q445 := eq_true q445
         refine start_ (n := 15) (S := fun w' => w'.cell? ⟨gb424, 0, none⟩ = some (.slice A0_0 l0_0.length c0_0) ∧ w'.cell? ⟨gb424, 1, none⟩ = some (.slice (some ad440) l0_1.length c0_1) ∧ w'.cell? (ad440.add ((x7_1).toNat * 6)) = some (.string ((rd_T58 l0_1 x7_1).f0)) ∧ w'.cell? ⟨(ad440.add ((x7_1).toNat * 6)).block, (ad440.add ((x7_1).toNat * 6)).off + 1, none⟩ = some (.int .i64 ((rd_T58 l0_1 x7_1).f1)) ∧ w'.cell? ⟨(ad440.add ((x7_1).toNat * 6)).block, (ad440.add ((x7_1).toNat * 6)).off + 2, none⟩ = some (.int .i64 ((rd_T58 l0_1 x7_1).f2)) ∧ w'.cell? ⟨(ad440.add ((x7_1).toNat * 6)).block, (ad440.add ((x7_1).toNat * 6)).off + 3, none⟩ = some (.int .i64 ((rd_T58 l0_1 x7_1).f3)) ∧ w'.cell? ⟨(ad440.add ((x7_1).toNat * 6)).block, (ad440.add ((x7_1).toNat * 6)).off + 4, none⟩ = some (.int .i64 ((rd_T58 l0_1 x7_1).f4)) ∧ w'.cell? ⟨(ad440.add ((x7_1).toNat * 6)).block, (ad440.add ((x7_1).toNat * 6)).off + 5, none⟩ = some (.int .i64 ((rd_T58 l0_1 x7_1).f5)) ∧ w'.cell? (ad441.add (x7_1).toNat) = some (.int .i64 (rd l1 x7_1))) (ds := []) #[false, false, false, false, false, false, false, false, false, false, false, false, false, false, false] (by kernel_rfl) rfl rfl ⟨(blk_cell BK424.out 0).trans rfl, (blk_cell BK424.out 1).trans rfl, ((HB.out.cell (World.block_lt_of_cell? w _ hw444_0)).trans hw444_0), ((HB.out.cell (World.block_lt_of_cell? w _ hw444_1)).trans hw444_1), ((HB.out.cell (World.block_lt_of_cell? w _ hw444_2)).trans hw444_2), ((HB.out.cell (World.block_lt_of_cell? w _ hw444_3)).trans hw444_3), ((HB.out.cell (World.block_lt_of_cell? w _ hw444_4)).trans hw444_4), ((HB.out.cell (World.block_lt_of_cell? w _ hw444_5)).trans hw444_5), ((HB.out.cell (World.block_lt_of_cell? w _ hw445_0)).trans hw445_0)⟩ (fun hHeld => ?_); refine with_tabW spec_PipeReport.tab10 spec_PipeReport.bits10 (fun HT_ HW_ => ?_)
         generalize w24.drew = w25 at HO_6 BK424 HB hx444_0 hx444_1 hx444_2 hx444_3 hx444_4 hx444_5 hx445_0 hHeld ⊢
         refine puZ 0 (some 40) #[true, false, false, false, false, false, false, false, false, false, false, false, false, false, false] rfl rfl HT_.out ?_
         refine puZ 2 (some 42) #[true, false, true, false, false, false, false, false, false, false, false, false, false, false, false] rfl rfl HT_.out ?_
         refine puZ 5 (some 45) #[true, false, true, false, false, true, false, false, false, false, false, false, false, false, false] rfl rfl HT_.out ?_
         refine puZ 6 (some 46) #[true, false, true, false, false, true, true, false, false, false, false, false, false, false, false] rfl rfl HT_.out ?_
         refine puZ 7 (some 47) #[true, false, true, false, false, true, true, true, false, false, false, false, false, false, false] rfl rfl HT_.out ?_
         refine take_ (i := 1) (N := some 41) (v := ?_) (a' := ?_) #[true, true, true, false, false, true, true, true, false, false, false, false, false, false, false] rfl rfl (take_ofW HT_.out HW_.out (by kernel_rfl)) (fun _ _ _ h => h) (Or.inl ⟨by rfl, ?_⟩) hHeld ?_ ?_
         rotate_left
         ·rintro w' ⟨s0, s1, s2, s3, s4, s5, s6, s7, s8⟩
          go_simp
          with_reducible rfl
         rotate_left
         ·simp only [Act.put, List.setIfInBounds_toArray, List.set_cons_zero, List.set_cons_succ, i64_w, i32_w]
          rfl
         refine puZ 3 (some 43) #[true, true, true, true, false, true, true, true, false, false, false, false, false, false, false] rfl rfl HT_.out ?_
         refine take_ (i := 4) (N := some 44) (v := ?_) (a' := ?_) #[true, true, true, true, true, true, true, true, false, false, false, false, false, false, false] rfl rfl (take_ofW HT_.out HW_.out (by kernel_rfl)) (fun _ _ _ h => h) (Or.inl ⟨by rfl, ?_⟩) hHeld ?_ ?_
         rotate_left
         ·rintro w' ⟨s0, s1, s2, s3, s4, s5, s6, s7, s8⟩
          go_simp
          with_reducible rfl
         rotate_left
         ·simp only [Act.put, List.setIfInBounds_toArray, List.set_cons_zero, List.set_cons_succ, i64_w, i32_w]
          rfl
         refine take_ (i := 8) (N := some 48) (v := ?_) (a' := ?_) #[true, true, true, true, true, true, true, true, true, false, false, false, false, false, false] rfl rfl (take_ofW HT_.out HW_.out (by kernel_rfl)) (fun _ _ _ h => h) (Or.inl ⟨by rfl, ?_⟩) hHeld ?_ ?_
         rotate_left
         ·rintro w' ⟨s0, s1, s2, s3, s4, s5, s6, s7, s8⟩
          go_simp
          with_reducible rfl
         rotate_left
         ·simp only [Act.put, List.setIfInBounds_toArray, List.set_cons_zero, List.set_cons_succ, i64_w, i32_w]
          rfl
         refine one_ (i := 9) (N := some 49) #[true, true, true, true, true, true, true, true, true, true, false, false, false, false, false] rfl rfl (one_of HT_.out (by kernel_rfl)) (by decide) (fun K hK => ?_)
         refine goes_ Tryz.func47 (by kernel_rfl) rfl #[.agg #[.string ((rd_T58 l0_1 x7_1).f0), .int .i64 ((rd_T58 l0_1 x7_1).f1), .int .i64 ((rd_T58 l0_1 x7_1).f2), .int .i64 ((rd_T58 l0_1 x7_1).f3), .int .i64 ((rd_T58 l0_1 x7_1).f4), .int .i64 ((rd_T58 l0_1 x7_1).f5)], .int .i64 (rd l1 x7_1)] (by rfl) rfl rfl gZ ?_
         with_reducible refine (spec_DelayOf.calls k1 ((rd_T58 l0_1 x7_1).f0) ((rd_T58 l0_1 x7_1).f1) ((rd_T58 l0_1 x7_1).f2) ((rd_T58 l0_1 x7_1).f3) ((rd_T58 l0_1 x7_1).f4) ((rd_T58 l0_1 x7_1).f5) (rd l1 x7_1) t446 t447 _ A17.out).mono ?_
         rintro e w26 ⟨rfl, hb⟩
         refine ⟨_, rfl, ?_⟩
         have n0_ := Aside0.mk (Kd.N_below (by (with_reducible repeat (first | apply Kd.N_alloc | apply Kd.N_drewN | apply Kd.N_drew)); exact HO_6.out) hb)
         have n1_ := Aside0.mk (blk_below (g := gb424) (o := .cells #[.slice A0_0 l0_0.length c0_0, .slice (some ad440) l0_1.length c0_1] 32 (0, 0)) (kZ BK424.out) hb)
         have n2_ := Aside0.mk (below_step bZ hb)
         clear HO_6; clear BK424; clear HB
         have HO_6 := n0_
         have BK424 := n1_
         have HB := n2_
         clear n0_ n1_ n2_
         (try clear hb)
         (try clear hb2)
         (try clear hk)
         (try clear hi)
         refine hK.out _ _ ⟨(blk_cell BK424.out 0).trans rfl, (blk_cell BK424.out 1).trans rfl, ((HB.out.cell (World.block_lt_of_cell? w _ hw444_0)).trans hw444_0), ((HB.out.cell (World.block_lt_of_cell? w _ hw444_1)).trans hw444_1), ((HB.out.cell (World.block_lt_of_cell? w _ hw444_2)).trans hw444_2), ((HB.out.cell (World.block_lt_of_cell? w _ hw444_3)).trans hw444_3), ((HB.out.cell (World.block_lt_of_cell? w _ hw444_4)).trans hw444_4), ((HB.out.cell (World.block_lt_of_cell? w _ hw444_5)).trans hw444_5), ((HB.out.cell (World.block_lt_of_cell? w _ hw445_0)).trans hw445_0)⟩ (fun hHeld => ?_)
         clear hK K
         refine norm_ (a' := ?_) ?_ ?_
         rotate_left
         ·show Act.put _ (some 49) _ = _
          simp only [Act.put, List.setIfInBounds_toArray, List.set_cons_zero, List.set_cons_succ, i64_w, i32_w]
          rfl
         refine puZ 10 (some 39) #[true, true, true, true, true, true, true, true, true, true, true, false, false, false, false] rfl rfl HT_.out ?_
         refine puZ 11 (some 50) #[true, true, true, true, true, true, true, true, true, true, true, true, false, false, false] rfl rfl HT_.out ?_
         refine puZ 12 (some 51) #[true, true, true, true, true, true, true, true, true, true, true, true, true, false, false] rfl rfl HT_.out ?_
         refine puZ 13 (some 10) #[true, true, true, true, true, true, true, true, true, true, true, true, true, true, false] rfl rfl HT_.out ?_
         refine puZ 14 (some 11) #[true, true, true, true, true, true, true, true, true, true, true, true, true, true, true] rfl rfl HT_.out ?_
         refine done_ (done_of HT_.out (by kernel_rfl)) ?_
         try go_wp2
         have n0_ := Aside0.mk (Kd.N_drew HO_6.out)
         have n1_ := Aside0.mk (blk_drew BK424.out)
         have n2_ := Aside0.mk (below_drew1 HB.out)
         clear HO_6; clear BK424; clear HB
         have HO_6 := n0_
         have BK424 := n1_
         have HB := n2_
         clear n0_ n1_ n2_
         have p448 : 0 ≤ (x7_1 : Int) := oZ
         have q448 : x7_1 < (l0_1.length : Int) := oZ
         obtain ⟨ad448, e448, hx448_0, hx448_1, hx448_2, hx448_3, hx448_4, hx448_5⟩ := at_T58 HR0_1.out x7_1 p448 q448
         have hw448_5 := hx448_5
         have hw448_4 := hx448_4
         have hw448_3 := hx448_3
         have hw448_2 := hx448_2
         have hw448_1 := hx448_1
         have hw448_0 := hx448_0
         obtain rfl : ad440 = ad448 := (by injection e448)
         replace hx448_0 := (HB.out.cell (World.block_lt_of_cell? w _ hx448_0)).trans hx448_0
         replace hx448_1 := (HB.out.cell (World.block_lt_of_cell? w _ hx448_1)).trans hx448_1
         replace hx448_2 := (HB.out.cell (World.block_lt_of_cell? w _ hx448_2)).trans hx448_2
         replace hx448_3 := (HB.out.cell (World.block_lt_of_cell? w _ hx448_3)).trans hx448_3
         replace hx448_4 := (HB.out.cell (World.block_lt_of_cell? w _ hx448_4)).trans hx448_4
         replace hx448_5 := (HB.out.cell (World.block_lt_of_cell? w _ hx448_5)).trans hx448_5
         replace p448 := eq_true p448
         replace q448 := eq_true q448
         have p449 : 0 ≤ (x7_1 : Int) := oZ
         have q449 : x7_1 < (l1.length : Int) := oZ
         obtain ⟨ad449, e449, hx449_0⟩ := Kd.at_int HR1.out x7_1 p449 q449
         have hw449_0 := hx449_0
         obtain rfl : ad441 = ad449 := (by injection e449)
         replace hx449_0 := (HB.out.cell (World.block_lt_of_cell? w _ hx449_0)).trans hx449_0
         replace p449 := eq_true p449
         replace q449 := eq_true q449
         refine start_ (n := 22) (S := fun w' => w'.cell? ⟨gb424, 0, none⟩ = some (.slice A0_0 l0_0.length c0_0) ∧ w'.cell? ⟨gb424, 1, none⟩ = some (.slice (some ad440) l0_1.length c0_1) ∧ w'.cell? (ad440.add ((x7_1).toNat * 6)) = some (.string ((rd_T58 l0_1 x7_1).f0)) ∧ w'.cell? ⟨(ad440.add ((x7_1).toNat * 6)).block, (ad440.add ((x7_1).toNat * 6)).off + 1, none⟩ = some (.int .i64 ((rd_T58 l0_1 x7_1).f1)) ∧ w'.cell? ⟨(ad440.add ((x7_1).toNat * 6)).block, (ad440.add ((x7_1).toNat * 6)).off + 2, none⟩ = some (.int .i64 ((rd_T58 l0_1 x7_1).f2)) ∧ w'.cell? ⟨(ad440.add ((x7_1).toNat * 6)).block, (ad440.add ((x7_1).toNat * 6)).off + 3, none⟩ = some (.int .i64 ((rd_T58 l0_1 x7_1).f3)) ∧ w'.cell? ⟨(ad440.add ((x7_1).toNat * 6)).block, (ad440.add ((x7_1).toNat * 6)).off + 4, none⟩ = some (.int .i64 ((rd_T58 l0_1 x7_1).f4)) ∧ w'.cell? ⟨(ad440.add ((x7_1).toNat * 6)).block, (ad440.add ((x7_1).toNat * 6)).off + 5, none⟩ = some (.int .i64 ((rd_T58 l0_1 x7_1).f5)) ∧ w'.cell? (ad441.add (x7_1).toNat) = some (.int .i64 (rd l1 x7_1))) (ds := []) #[false, false, false, false, false, false, false, false, false, false, false, false, false, false, false, false, false, false, false, false, false, false] (by kernel_rfl) rfl rfl ⟨(blk_cell BK424.out 0).trans rfl, (blk_cell BK424.out 1).trans rfl, ((HB.out.cell (World.block_lt_of_cell? w _ hw448_0)).trans hw448_0), ((HB.out.cell (World.block_lt_of_cell? w _ hw448_1)).trans hw448_1), ((HB.out.cell (World.block_lt_of_cell? w _ hw448_2)).trans hw448_2), ((HB.out.cell (World.block_lt_of_cell? w _ hw448_3)).trans hw448_3), ((HB.out.cell (World.block_lt_of_cell? w _ hw448_4)).trans hw448_4), ((HB.out.cell (World.block_lt_of_cell? w _ hw448_5)).trans hw448_5), ((HB.out.cell (World.block_lt_of_cell? w _ hw449_0)).trans hw449_0)⟩ (fun hHeld => ?_); refine with_tabW spec_PipeReport.tab11 spec_PipeReport.bits11 (fun HT_ HW_ => ?_)
         generalize w26.drew = w27 at HO_6 BK424 HB hx448_0 hx448_1 hx448_2 hx448_3 hx448_4 hx448_5 hx449_0 hHeld ⊢
         refine puZ 0 (some 52) #[true, false, false, false, false, false, false, false, false, false, false, false, false, false, false, false, false, false, false, false, false, false] rfl rfl HT_.out ?_
         refine puZ 1 (some 53) #[true, true, false, false, false, false, false, false, false, false, false, false, false, false, false, false, false, false, false, false, false, false] rfl rfl HT_.out ?_
         refine puZ 3 (some 55) #[true, true, false, true, false, false, false, false, false, false, false, false, false, false, false, false, false, false, false, false, false, false] rfl rfl HT_.out ?_
         refine puZ 7 (some 59) #[true, true, false, true, false, false, false, true, false, false, false, false, false, false, false, false, false, false, false, false, false, false] rfl rfl HT_.out ?_
         refine puZ 8 (some 60) #[true, true, false, true, false, false, false, true, true, false, false, false, false, false, false, false, false, false, false, false, false, false] rfl rfl HT_.out ?_
         refine puZ 9 (some 61) #[true, true, false, true, false, false, false, true, true, true, false, false, false, false, false, false, false, false, false, false, false, false] rfl rfl HT_.out ?_
         refine puZ 12 (some 64) #[true, true, false, true, false, false, false, true, true, true, false, false, true, false, false, false, false, false, false, false, false, false] rfl rfl HT_.out ?_
         refine puZ 13 (some 65) #[true, true, false, true, false, false, false, true, true, true, false, false, true, true, false, false, false, false, false, false, false, false] rfl rfl HT_.out ?_
         refine puZ 15 (some 67) #[true, true, false, true, false, false, false, true, true, true, false, false, true, true, false, true, false, false, false, false, false, false] rfl rfl HT_.out ?_
         refine puZ 16 (some 68) #[true, true, false, true, false, false, false, true, true, true, false, false, true, true, false, true, true, false, false, false, false, false] rfl rfl HT_.out ?_
         refine take_ (i := 2) (N := some 54) (v := ?_) (a' := ?_) #[true, true, true, true, false, false, false, true, true, true, false, false, true, true, false, true, true, false, false, false, false, false] rfl rfl (take_ofW HT_.out HW_.out (by kernel_rfl)) (fun _ _ _ h => h) (Or.inl ⟨by rfl, ?_⟩) hHeld ?_ ?_
         rotate_left
         ·rintro w' ⟨s0, s1, s2, s3, s4, s5, s6, s7, s8⟩
          go_simp
          with_reducible rfl
         rotate_left
         ·simp only [Act.put, List.setIfInBounds_toArray, List.set_cons_zero, List.set_cons_succ, i64_w, i32_w]
          rfl
         refine puZ 4 (some 56) #[true, true, true, true, true, false, false, true, true, true, false, false, true, true, false, true, true, false, false, false, false, false] rfl rfl HT_.out ?_
         refine puZ 5 (some 57) #[true, true, true, true, true, true, false, true, true, true, false, false, true, true, false, true, true, false, false, false, false, false] rfl rfl HT_.out ?_
         refine take_ (i := 6) (N := some 58) (v := ?_) (a' := ?_) #[true, true, true, true, true, true, true, true, true, true, false, false, true, true, false, true, true, false, false, false, false, false] rfl rfl (take_ofW HT_.out HW_.out (by kernel_rfl)) (fun _ _ _ h => h) (Or.inl ⟨by rfl, ?_⟩) hHeld ?_ ?_
         rotate_left
         ·rintro w' ⟨s0, s1, s2, s3, s4, s5, s6, s7, s8⟩
          go_simp
          with_reducible rfl
         rotate_left
         ·simp only [Act.put, List.setIfInBounds_toArray, List.set_cons_zero, List.set_cons_succ, i64_w, i32_w]
          rfl
         refine take_ (i := 10) (N := some 62) (v := ?_) (a' := ?_) #[true, true, true, true, true, true, true, true, true, true, true, false, true, true, false, true, true, false, false, false, false, false] rfl rfl (take_ofW HT_.out HW_.out (by kernel_rfl)) (fun _ _ _ h => h) (Or.inl ⟨by rfl, ?_⟩) hHeld ?_ ?_
         rotate_left
         ·rintro w' ⟨s0, s1, s2, s3, s4, s5, s6, s7, s8⟩
          go_simp
          with_reducible rfl
         rotate_left
         ·simp only [Act.put, List.setIfInBounds_toArray, List.set_cons_zero, List.set_cons_succ, i64_w, i32_w]
          rfl
         refine one_ (i := 11) (N := some 63) #[true, true, true, true, true, true, true, true, true, true, true, true, true, true, false, true, true, false, false, false, false, false] rfl rfl (one_of HT_.out (by kernel_rfl)) (by decide) (fun K hK => ?_)
         refine goes_ Tryz.func34 (by kernel_rfl) rfl #[.int .i64 (rd l1 x7_1)] (by rfl) rfl rfl gZ ?_
         with_reducible refine (spec_l01Dec.calls k1 (rd l1 x7_1) t450 _ A18.out).mono ?_
         rintro e w28 ⟨rfl, hb⟩
         refine ⟨_, rfl, ?_⟩
         have n0_ := Aside0.mk (Kd.N_below (by (with_reducible repeat (first | apply Kd.N_alloc | apply Kd.N_drewN | apply Kd.N_drew)); exact HO_6.out) hb)
         have n1_ := Aside0.mk (blk_below (g := gb424) (o := .cells #[.slice A0_0 l0_0.length c0_0, .slice (some ad440) l0_1.length c0_1] 32 (0, 0)) (kZ BK424.out) hb)
         have n2_ := Aside0.mk (below_step bZ hb)
         clear HO_6; clear BK424; clear HB
         have HO_6 := n0_
         have BK424 := n1_
         have HB := n2_
         clear n0_ n1_ n2_
         (try clear hb)
         (try clear hb2)
         (try clear hk)
         (try clear hi)
         refine hK.out _ _ ⟨(blk_cell BK424.out 0).trans rfl, (blk_cell BK424.out 1).trans rfl, ((HB.out.cell (World.block_lt_of_cell? w _ hw448_0)).trans hw448_0), ((HB.out.cell (World.block_lt_of_cell? w _ hw448_1)).trans hw448_1), ((HB.out.cell (World.block_lt_of_cell? w _ hw448_2)).trans hw448_2), ((HB.out.cell (World.block_lt_of_cell? w _ hw448_3)).trans hw448_3), ((HB.out.cell (World.block_lt_of_cell? w _ hw448_4)).trans hw448_4), ((HB.out.cell (World.block_lt_of_cell? w _ hw448_5)).trans hw448_5), ((HB.out.cell (World.block_lt_of_cell? w _ hw449_0)).trans hw449_0)⟩ (fun hHeld => ?_)
         clear hK K
         refine norm_ (a' := ?_) ?_ ?_
         rotate_left
         ·show Act.put _ (some 63) _ = _
          simp only [Act.put, List.setIfInBounds_toArray, List.set_cons_zero, List.set_cons_succ, i64_w, i32_w]
          rfl
         refine one_ (i := 14) (N := some 66) #[true, true, true, true, true, true, true, true, true, true, true, true, true, true, true, true, true, false, false, false, false, false] rfl rfl (one_of HT_.out (by kernel_rfl)) (by decide) (fun K hK => ?_)
         refine goes_ Tryz.func48 (by kernel_rfl) rfl #[.int .i64 t442, .int .i64 t443] (by rfl) rfl rfl gZ ?_
         with_reducible refine (spec_l30Cell.calls k1 t442 t443 t451 _ A19.out).mono ?_
         rintro e w29 ⟨rfl, hb⟩
         refine ⟨_, rfl, ?_⟩
         have n0_ := Aside0.mk (Kd.N_below (by (with_reducible repeat (first | apply Kd.N_alloc | apply Kd.N_drewN | apply Kd.N_drew)); exact HO_6.out) hb)
         have n1_ := Aside0.mk (blk_below (g := gb424) (o := .cells #[.slice A0_0 l0_0.length c0_0, .slice (some ad440) l0_1.length c0_1] 32 (0, 0)) (kZ BK424.out) hb)
         have n2_ := Aside0.mk (below_step bZ hb)
         clear HO_6; clear BK424; clear HB
         have HO_6 := n0_
         have BK424 := n1_
         have HB := n2_
         clear n0_ n1_ n2_
         (try clear hb)
         (try clear hb2)
         (try clear hk)
         (try clear hi)
         refine hK.out _ _ ⟨(blk_cell BK424.out 0).trans rfl, (blk_cell BK424.out 1).trans rfl, ((HB.out.cell (World.block_lt_of_cell? w _ hw448_0)).trans hw448_0), ((HB.out.cell (World.block_lt_of_cell? w _ hw448_1)).trans hw448_1), ((HB.out.cell (World.block_lt_of_cell? w _ hw448_2)).trans hw448_2), ((HB.out.cell (World.block_lt_of_cell? w _ hw448_3)).trans hw448_3), ((HB.out.cell (World.block_lt_of_cell? w _ hw448_4)).trans hw448_4), ((HB.out.cell (World.block_lt_of_cell? w _ hw448_5)).trans hw448_5), ((HB.out.cell (World.block_lt_of_cell? w _ hw449_0)).trans hw449_0)⟩ (fun hHeld => ?_)
         clear hK K
         refine norm_ (a' := ?_) ?_ ?_
         rotate_left
         ·show Act.put _ (some 66) _ = _
          simp only [Act.put, List.setIfInBounds_toArray, List.set_cons_zero, List.set_cons_succ, i64_w, i32_w]
          rfl
         refine one_ (i := 17) (N := some 69) #[true, true, true, true, true, true, true, true, true, true, true, true, true, true, true, true, true, true, false, false, false, false] rfl rfl (one_of HT_.out (by kernel_rfl)) (by decide) (fun K hK => ?_)
         refine goes_ Tryz.func48 (by kernel_rfl) rfl #[.int .i64 t446, .int .i64 t447] (by rfl) rfl rfl gZ ?_
         with_reducible refine (spec_l30Cell.calls k1 t446 t447 t452 _ A20.out).mono ?_
         rintro e w30 ⟨rfl, hb⟩
         refine ⟨_, rfl, ?_⟩
         have n0_ := Aside0.mk (Kd.N_below (by (with_reducible repeat (first | apply Kd.N_alloc | apply Kd.N_drewN | apply Kd.N_drew)); exact HO_6.out) hb)
         have n1_ := Aside0.mk (blk_below (g := gb424) (o := .cells #[.slice A0_0 l0_0.length c0_0, .slice (some ad440) l0_1.length c0_1] 32 (0, 0)) (kZ BK424.out) hb)
         have n2_ := Aside0.mk (below_step bZ hb)
         clear HO_6; clear BK424; clear HB
         have HO_6 := n0_
         have BK424 := n1_
         have HB := n2_
         clear n0_ n1_ n2_
         (try clear hb)
         (try clear hb2)
         (try clear hk)
         (try clear hi)
         refine hK.out _ _ ⟨(blk_cell BK424.out 0).trans rfl, (blk_cell BK424.out 1).trans rfl, ((HB.out.cell (World.block_lt_of_cell? w _ hw448_0)).trans hw448_0), ((HB.out.cell (World.block_lt_of_cell? w _ hw448_1)).trans hw448_1), ((HB.out.cell (World.block_lt_of_cell? w _ hw448_2)).trans hw448_2), ((HB.out.cell (World.block_lt_of_cell? w _ hw448_3)).trans hw448_3), ((HB.out.cell (World.block_lt_of_cell? w _ hw448_4)).trans hw448_4), ((HB.out.cell (World.block_lt_of_cell? w _ hw448_5)).trans hw448_5), ((HB.out.cell (World.block_lt_of_cell? w _ hw449_0)).trans hw449_0)⟩ (fun hHeld => ?_)
         clear hK K
         refine norm_ (a' := ?_) ?_ ?_
         rotate_left
         ·show Act.put _ (some 69) _ = _
          simp only [Act.put, List.setIfInBounds_toArray, List.set_cons_zero, List.set_cons_succ, i64_w, i32_w]
          rfl
         refine one_ (i := 18) (N := some 70) #[true, true, true, true, true, true, true, true, true, true, true, true, true, true, true, true, true, true, true, false, false, false] rfl rfl (one_of HT_.out (by kernel_rfl)) (by decide) (fun K hK => ?_)
         refine Kd.R_lit_step Kd.string _ 9 ?hg (N := 70) ?hd (xs := ([(rd_T58 l0_1 x7_1).f0, t450, t451, t452] : List ByteArray)) (inner := [.string ((rd_T58 l0_1 x7_1).f0), .string t450, .string t451, .string t452]) (ok := fun _ => True) (okp := fun _ => True) ?hr ?hp (fun _ hk => hk) trivial (Below.refl _ _) (Nat.le_refl _) (by simp) ?_; (case hd => rfl); (case hg => rfl); (case hr => first | (go_simp; done) | (go_simp; rfl)); (case hp => exact (Reps.one (show Kd.M Kd.string _ _ _ ((rd_T58 l0_1 x7_1).f0) [.string ((rd_T58 l0_1 x7_1).f0)] from rfl) (Reps.one (show Kd.M Kd.string _ _ _ t450 [.string t450] from rfl) (Reps.one (show Kd.M Kd.string _ _ _ t451 [.string t451] from rfl) (Reps.one (show Kd.M Kd.string _ _ _ t452 [.string t452] from rfl) (Reps.none _ _))))))
         intro v454 w31 ho32 hb hg_ hnew_
         clear hg_ hnew_
         (first | rw [← Ny453.out] at ho32 | (simp only [Int.reduceToNat] at ho32; rw [← Ny453.out] at ho32))
         have n0_ := Aside0.mk (Kd.N_elder' (by (with_reducible repeat (first | apply Kd.N_alloc | apply Kd.N_drewN | apply Kd.N_drew)); exact HO_6.out) (Kd.R_base ho32) hb)
         have n1_ := Aside0.mk (Kd.R_lower ho32 bsZ)
         have n2_ := Aside0.mk (blk_below (g := gb424) (o := .cells #[.slice A0_0 l0_0.length c0_0, .slice (some ad440) l0_1.length c0_1] 32 (0, 0)) (kZ BK424.out) hb)
         have n3_ := Aside0.mk (below_step bZ hb)
         clear HO_6; clear BK424; clear HB
         have HO_6 := n0_
         have HO455 := n1_
         have BK424 := n2_
         have HB := n3_
         clear n0_ n1_ n2_ n3_
         clear hb ho32
         obtain ⟨Ao34, co34, eo34⟩ := Kd.R_slice HO455.out
         (first | subst eo34 | (injection eo34 with f1_ f2_ f3_; have f4_ := f1_.symm; have f5_ := f3_.symm; clear f1_ f2_ f3_; subst f4_; subst f5_))
         refine hK.out _ _ ⟨(blk_cell BK424.out 0).trans rfl, (blk_cell BK424.out 1).trans rfl, ((HB.out.cell (World.block_lt_of_cell? w _ hw448_0)).trans hw448_0), ((HB.out.cell (World.block_lt_of_cell? w _ hw448_1)).trans hw448_1), ((HB.out.cell (World.block_lt_of_cell? w _ hw448_2)).trans hw448_2), ((HB.out.cell (World.block_lt_of_cell? w _ hw448_3)).trans hw448_3), ((HB.out.cell (World.block_lt_of_cell? w _ hw448_4)).trans hw448_4), ((HB.out.cell (World.block_lt_of_cell? w _ hw448_5)).trans hw448_5), ((HB.out.cell (World.block_lt_of_cell? w _ hw449_0)).trans hw449_0)⟩ (fun hHeld => ?_)
         clear hK K
         refine norm_ (a' := ?_) ?_ ?_
         rotate_left
         ·show Act.put _ (some 70) _ = _
          simp only [Act.put, List.setIfInBounds_toArray, List.set_cons_zero, List.set_cons_succ, i64_w, i32_w]
          rfl
         refine one_ (i := 19) (N := some 71) #[true, true, true, true, true, true, true, true, true, true, true, true, true, true, true, true, true, true, true, true, false, false] rfl rfl (one_of HT_.out (by kernel_rfl)) (by decide) (fun K hK => ?_)
         refine value_ (w1 := ?_) (v := ?_) (by rfl) rfl ?_ ?_
         rotate_left 2
         ·go_simp
          constructor
          ·rfl
          ·rfl
         refine hK.out _ _ ⟨(blk_cell (blk_alloc BK424.out _) 0).trans rfl, (blk_cell (blk_alloc BK424.out _) 1).trans rfl, (World.cell?_alloc_lt _ _ _ (World.block_lt_of_cell? _ _ (((HB.out.cell (World.block_lt_of_cell? w _ hw448_0)).trans hw448_0)))).trans (((HB.out.cell (World.block_lt_of_cell? w _ hw448_0)).trans hw448_0)), (World.cell?_alloc_lt _ _ _ (World.block_lt_of_cell? _ _ (((HB.out.cell (World.block_lt_of_cell? w _ hw448_1)).trans hw448_1)))).trans (((HB.out.cell (World.block_lt_of_cell? w _ hw448_1)).trans hw448_1)), (World.cell?_alloc_lt _ _ _ (World.block_lt_of_cell? _ _ (((HB.out.cell (World.block_lt_of_cell? w _ hw448_2)).trans hw448_2)))).trans (((HB.out.cell (World.block_lt_of_cell? w _ hw448_2)).trans hw448_2)), (World.cell?_alloc_lt _ _ _ (World.block_lt_of_cell? _ _ (((HB.out.cell (World.block_lt_of_cell? w _ hw448_3)).trans hw448_3)))).trans (((HB.out.cell (World.block_lt_of_cell? w _ hw448_3)).trans hw448_3)), (World.cell?_alloc_lt _ _ _ (World.block_lt_of_cell? _ _ (((HB.out.cell (World.block_lt_of_cell? w _ hw448_4)).trans hw448_4)))).trans (((HB.out.cell (World.block_lt_of_cell? w _ hw448_4)).trans hw448_4)), (World.cell?_alloc_lt _ _ _ (World.block_lt_of_cell? _ _ (((HB.out.cell (World.block_lt_of_cell? w _ hw448_5)).trans hw448_5)))).trans (((HB.out.cell (World.block_lt_of_cell? w _ hw448_5)).trans hw448_5)), (World.cell?_alloc_lt _ _ _ (World.block_lt_of_cell? _ _ (((HB.out.cell (World.block_lt_of_cell? w _ hw449_0)).trans hw449_0)))).trans (((HB.out.cell (World.block_lt_of_cell? w _ hw449_0)).trans hw449_0))⟩ (fun hHeld => ?_)
         clear hK K
         refine norm_ (a' := ?_) ?_ ?_
         rotate_left
         ·show Act.put _ (some 71) _ = _
          simp only [Act.put, List.setIfInBounds_toArray, List.set_cons_zero, List.set_cons_succ, i64_w, i32_w]
          rfl
         refine one_ (i := 20) (N := some 72) #[true, true, true, true, true, true, true, true, true, true, true, true, true, true, true, true, true, true, true, true, true, false] rfl rfl (one_of HT_.out (by kernel_rfl)) (by decide) (fun K hK => ?_)
         refine Kd.N_append_step (Kd.slice 9 Kd.string) (w0 := w) w.heap.size (by rfl) (.tmp 52) (.tmp 71) 56 27 (.slice none 0 0) 24 rfl Tryz.underlying56 info27 rfl (by decide) (by omega) u6 x6_1 y453 [.slice Ao34 y453.length co34] (fun k_ => k_ ≠ gb424) (fun k_ => ((fun k_ => k_ ≠ gb424)) k_ ∧ some k_ ≠ (u6 : Value).ownBlock) rfl rfl ?aP (fun _ hk => hk) ?aF ?aO ?aB ?aS ?aL ?_
         (case aP => exact (Kd.FK_slice_mk (Kd.R_reads' (Kd.R_mono (ok' := (fun k_ => ((fun k_ => k_ ≠ gb424)) k_ ∧ some k_ ≠ (u6 : Value).ownBlock)) (Kd.R_types (Kd.R_apart' (HO455.out) (Kd.N_typed HO_6.out) (by decide)) BK424.out (by decide)) (fun k_ hk => ⟨hk.2, hk.1.2⟩))).2.1 (Kd.R_F (Kd.R_mono (ok' := (fun k_ => ((fun k_ => k_ ≠ gb424)) k_ ∧ some k_ ≠ (u6 : Value).ownBlock)) (Kd.R_types (Kd.R_apart' (HO455.out) (Kd.N_typed HO_6.out) (by decide)) BK424.out (by decide)) (fun k_ hk => ⟨hk.2, hk.1.2⟩)))))
         (case aB => exact bZ)
         (case aF => exact (fun k_ hk => Kd.freshB (g := gb424) (o := .cells #[.slice A0_0 l0_0.length c0_0, .slice (some ad440) l0_1.length c0_1] 32 (0, 0)) (kZ BK424.out) k_ hk))
         (case aO => exact (by (with_reducible repeat (first | apply Kd.N_alloc | apply Kd.N_drewN | apply Kd.N_drew)); exact Kd.N_mono HO_6.out (fun _ hk => hk.1)))
         (case aS => exact bsZ)
         (case aL => have := LMc21.out; omega)
         intro v457 w33 ho hb hg hat
         rw [← Ny456.out] at ho
         have n0_ := Aside0.mk (blk_grown (g := gb424) (o := .cells #[.slice A0_0 l0_0.length c0_0, .slice (some ad440) l0_1.length c0_1] 32 (0, 0)) (kZ BK424.out) hg (Kd.N_ne HO_6.out BK424.out (by decide)))
         have n1_ := Aside0.mk (hb)
         have n2_ := Aside0.mk (ho)
         clear BK424; clear HB; clear HO_6; clear HO455
         have BK424 := n0_
         have HB := n1_
         have HO458 := n2_
         clear n0_ n1_ n2_
         clear ho hb hg hat
         refine hK.out _ _ ⟨(blk_cell BK424.out 0).trans rfl, (blk_cell BK424.out 1).trans rfl, ((HB.out.cell (World.block_lt_of_cell? w _ hw448_0)).trans hw448_0), ((HB.out.cell (World.block_lt_of_cell? w _ hw448_1)).trans hw448_1), ((HB.out.cell (World.block_lt_of_cell? w _ hw448_2)).trans hw448_2), ((HB.out.cell (World.block_lt_of_cell? w _ hw448_3)).trans hw448_3), ((HB.out.cell (World.block_lt_of_cell? w _ hw448_4)).trans hw448_4), ((HB.out.cell (World.block_lt_of_cell? w _ hw448_5)).trans hw448_5), ((HB.out.cell (World.block_lt_of_cell? w _ hw449_0)).trans hw449_0)⟩ (fun hHeld => ?_)
         clear hK K
         refine norm_ (a' := ?_) ?_ ?_
         rotate_left
         ·show Act.put _ (some 72) _ = _
          simp only [Act.put, List.setIfInBounds_toArray, List.set_cons_zero, List.set_cons_succ, i64_w, i32_w]
          rfl
         refine puZ 21 (some 6) #[true, true, true, true, true, true, true, true, true, true, true, true, true, true, true, true, true, true, true, true, true, true] rfl rfl HT_.out ?_
         refine done_ (done_of HT_.out (by kernel_rfl)) ?_
         try go_wp2
         go_roundg k1
         case measure => have := HK1.out; omega
         case rel => exact ⟨(y456), (wrap64 (x7_1 + 1)), sZ, H', ⟨by have := HK1.out; omega⟩, ⟨by (with_reducible repeat (first | apply Kd.N_alloc | apply Kd.N_drewN | apply Kd.N_drew)); exact HO458.out⟩, ⟨kZ BK424.out⟩, ⟨bZ⟩⟩
        ·rw [if_neg c21] at H
         exact absurd H (by simp)
       ·rw [if_neg c15] at H
        exact absurd H (by simp)
      ·rw [if_neg c14] at H
       exact absurd H (by simp)
     ·rw [if_neg c13] at H
      have c13b0 : decide (x7_1 < (l0_1.length : Int)) = false := decide_eq_false c13
      clear c13
      replace H := Option.bind_eq_some_iff.mp H
      obtain ⟨t433, A350, H⟩ := H
      replace H : ((spec_l30Done.f k1 t433).bind fun bt436 => (some (bt436.1, bt436.2))) = some (r1, r2) := H
      have A35 := Aside0.mk A350
      clear A350
      replace H := Option.bind_eq_some_iff.mp H
      obtain ⟨⟨t436, t439⟩, A360, H⟩ := H
      replace H : (some (t436, t439)) = some (r1, r2) := H
      have A36 := Aside0.mk A360
      clear A360
      simp only [Option.some.injEq, Prod.mk.injEq] at H
      obtain ⟨rfl, rfl⟩ := H
      have hcz37_0 := bc0 BK424.out
      have hcz37_1 := bc1 BK424.out
      have hfz37_0 := blk_frozen BK424.out 0
      have hfz37_1 := blk_frozen BK424.out 1
      obtain ⟨Ao38, co38, eo38⟩ := Kd.N_slice HO_6.out
      subst eo38
      go_wp2_with (first | ((with_reducible refine gate_callee (f := 36) rfl ?_); refine goesL_ (some 74) rfl rfl Tryz.func36 (by kernel_rfl) rfl #[.slice Ao38 x6_1.length co38] rfl gZ ?_; (with_reducible refine (spec_l30Table.calls k1 _ _ x6_1 t433 _ ?side1 ?side2 A35.out).mono ?_); (case side1 => repeat (first | exact (Kd.N_reads' HO_6.out).2.2 | (with_reducible refine Kd.C_alloc ?_ _) | (with_reducible refine Kd.C_drewN ?_ _) | (with_reducible refine Kd.C_drew ?_))); (case side2 => exact (Kd.N_reads' HO_6.out).2.1); rintro e w39 ⟨v434, rfl, ho0, hb⟩; refine ⟨_, rfl, ?_⟩; have n0_ := Aside0.mk (Kd.N_elder' (by (with_reducible repeat (first | apply Kd.N_alloc | apply Kd.N_drewN | apply Kd.N_drew)); exact HO_6.out) (Kd.R_base ho0) hb); have n1_ := Aside0.mk (Kd.R_lower ho0 bsZ); have n2_ := Aside0.mk (blk_below (g := gb424) (o := .cells #[.slice A0_0 l0_0.length c0_0, .slice A0_1 l0_1.length c0_1] 32 (0, 0)) (kZ BK424.out) hb); have n3_ := Aside0.mk (below_step bZ hb); clear HO_6; clear BK424; clear HB; have HO_6 := n0_; have HO435 := n1_; have BK424 := n2_; have HB := n3_; clear n0_ n1_ n2_ n3_; (try clear hb); (try clear hb2); (try clear hk); (try clear hi); (try clear ho0); obtain ⟨Ao40, co40, eo40⟩ := Kd.R_slice HO435.out; subst eo40) | ((with_reducible refine gate_callee (f := 35) rfl ?_); refine goesL_ (some 75) rfl rfl Tryz.func35 (by kernel_rfl) rfl #[.slice Ao40 t433.length co40] rfl gZ ?_; (with_reducible refine (spec_l30Done.calls k1 (fun k_ => some k_ = (.slice Ao40 t433.length co40 : Value).ownBlock) (.slice Ao40 t433.length co40) t433 t436 t439 w _ ?side1 ?side2 A36.out).mono ?_); (case side1 => repeat (first | (with_reducible first | exact HB.out | apply below_alloc | apply pw_below_drewN | apply below_drew1 | refine below_set ?_ GE424.out) | exact HB.out)); (case side2 => exact Kd.R_tight rfl HO435.out); rintro e w41 ⟨v437, rfl, ho0, hb, hkp⟩; refine ⟨_, rfl, ?_⟩; have n0_ := Aside0.mk (Kd.N_mono (ok' := fun k_ => k_ ≠ gb424 ∧ some k_ ≠ (v437 : Value).ownBlock) (Kd.N_keptB (HO_6.out) hkp (fun k_ hk_ hs_ => (hk_.2) hs_)) (fun k_ hk_ => ⟨hk_.1.1, fun e_ => Or.elim (ho0.1 k_ e_.symm) (fun hs_ => hk_.2.1 hs_) (fun hn_ => Nat.not_le.2 hk_.2.2 hn_)⟩)); have n1_ := Aside0.mk (blk_kept (kZ BK424.out) hkp (fun hs_ => (fun e_ => (Kd.R_ne HO435.out BK424.out (by decide)) e_) hs_)); have n2_ := Aside0.mk (Kd.R_mono (ok' := fun k_ => True) ho0 (fun k_ hk_ => trivial)); have n3_ := Aside0.mk (hb); clear HO_6; clear BK424; clear HB; clear HO435; have HO_6 := n0_; have BK424 := n1_; have HO438 := n2_; have HB := n3_; clear n0_ n1_ n2_ n3_; (try clear hb); (try clear hkp); (try clear ho0)))
      go_ret2
      exact ⟨_, eZ, Kd.rZ HO438.out, bZ⟩
  ·replace c6 := Bool.eq_false_iff.mpr c6
   subst c6
   have H1 : (some (([] : List ByteArray), 2)) = some (r1, r2) := by rw [if_neg (show ¬ (false = true) by decide)] at H; exact H
   clear H
   have H := H1
   clear H1
   simp only [Option.some.injEq, Prod.mk.injEq] at H
   obtain ⟨rfl, rfl⟩ := H
   go_enter Tryz.func18, Tryz.ntmps18
   go_wp2_with (first | ((with_reducible refine gate_dst (N := 2) rfl ?_); refine boxZ 2 #[.slice A0_0 l0_0.length c0_0, .slice A0_1 l0_1.length c0_1] 32 rfl rfl ?_; intro gb424 hg w42 hbox hb; have n0_ := Aside0.mk (below_step bZ hb); have n1_ := Aside0.mk (hbox); have n2_ := Aside0.mk ((by rw [hg]; exact bsZ : w.heap.size ≤ gb424)); have n3_ := Aside0.mk ((by rw [hg]; exact bsZ : w.heap.size ≤ gb424)); clear HB; have HB := n0_; have BK424 := n1_; have GW424 := n2_; have GE424 := n3_; clear n0_ n1_ n2_ n3_; clear hb hbox hg) | ((with_reducible refine gate_callee (f := 31) rfl ?_); refine goesL_ (some 12) rfl rfl Tryz.func31 (by kernel_rfl) rfl #[.pointer (some ⟨gb424, 0, none⟩)] rfl gZ ?_; (with_reducible refine (spec_l04Ok.calls k _ A0_0 c0_0 l0_0 A0_1 c0_1 l0_1 true _ ?side1 ?side2 ?side3 ?side4 ?side5 A3.out).mono ?_); (case side1 => repeat (first | exact (Kd.C_below HR0_0.out HB.out) | (with_reducible refine Kd.C_alloc ?_ _) | (with_reducible refine Kd.C_drewN ?_ _) | (with_reducible refine Kd.C_drew ?_))); (case side2 => exact HC0_0.out); (case side3 => repeat (first | exact (Kd.C_below HR0_1.out HB.out) | (with_reducible refine Kd.C_alloc ?_ _) | (with_reducible refine Kd.C_drewN ?_ _) | (with_reducible refine Kd.C_drew ?_))); (case side4 => exact HC0_1.out); (case side5 => exact ViewAt.of_blk (kZ BK424.out)); rintro e w' ⟨rfl, ⟨nd, rfl⟩⟩; refine ⟨_, rfl, ?_⟩) | ((with_reducible refine gate_callee (f := 32) rfl ?_); refine goesL_ (some 15) rfl rfl Tryz.func32 (by kernel_rfl) rfl #[.pointer (some ⟨gb424, 0, none⟩), .slice A1 l1.length c1] rfl gZ ?_; (with_reducible refine (spec_l30Flows.calls k _ A0_0 c0_0 l0_0 A0_1 c0_1 l0_1 _ _ l1 false _ ?side1 ?side2 ?side3 ?side4 ?side5 ?side6 ?side7 A5.out).mono ?_); (case side1 => repeat (first | exact (Kd.C_below HR0_0.out bZ) | (with_reducible refine Kd.C_alloc ?_ _) | (with_reducible refine Kd.C_drewN ?_ _) | (with_reducible refine Kd.C_drew ?_))); (case side2 => exact HC0_0.out); (case side3 => repeat (first | exact (Kd.C_below HR0_1.out bZ) | (with_reducible refine Kd.C_alloc ?_ _) | (with_reducible refine Kd.C_drewN ?_ _) | (with_reducible refine Kd.C_drew ?_))); (case side4 => exact HC0_1.out); (case side5 => repeat (first | exact (Kd.C_below HR1.out bZ) | (with_reducible refine Kd.C_alloc ?_ _) | (with_reducible refine Kd.C_drewN ?_ _) | (with_reducible refine Kd.C_drew ?_))); (case side6 => exact HC1.out); (case side7 => exact ViewAt.of_blk (kZ BK424.out)); rintro e w' ⟨rfl, ⟨nd, rfl⟩⟩; refine ⟨_, rfl, ?_⟩))
   go_ret2
   exact ⟨_, eZ, by first | exact Kd.R_nil _ _ _ _ _ | exact Kd.N_nil _ _ _ _ _ | exact Kd.V_nil _ _ _ _ _ | exact Kd.Q_nil _ _ _ _ _ | exact Kd.S_nil _ _ _ _ _, bZ⟩
 ·replace c4 := Bool.eq_false_iff.mpr c4
  subst c4
  have H1 : (some (([] : List ByteArray), 1)) = some (r1, r2) := by rw [if_neg (show ¬ (false = true) by decide)] at H; exact H
  clear H
  have H := H1
  clear H1
  simp only [Option.some.injEq, Prod.mk.injEq] at H
  obtain ⟨rfl, rfl⟩ := H
  go_enter Tryz.func18, Tryz.ntmps18
  go_wp2_with (first | ((with_reducible refine gate_dst (N := 2) rfl ?_); refine boxZ 2 #[.slice A0_0 l0_0.length c0_0, .slice A0_1 l0_1.length c0_1] 32 rfl rfl ?_; intro gb424 hg w43 hbox hb; have n0_ := Aside0.mk (below_step bZ hb); have n1_ := Aside0.mk (hbox); have n2_ := Aside0.mk ((by rw [hg]; exact bsZ : w.heap.size ≤ gb424)); have n3_ := Aside0.mk ((by rw [hg]; exact bsZ : w.heap.size ≤ gb424)); clear HB; have HB := n0_; have BK424 := n1_; have GW424 := n2_; have GE424 := n3_; clear n0_ n1_ n2_ n3_; clear hb hbox hg) | ((with_reducible refine gate_callee (f := 31) rfl ?_); refine goesL_ (some 12) rfl rfl Tryz.func31 (by kernel_rfl) rfl #[.pointer (some ⟨gb424, 0, none⟩)] rfl gZ ?_; (with_reducible refine (spec_l04Ok.calls k _ A0_0 c0_0 l0_0 A0_1 c0_1 l0_1 false _ ?side1 ?side2 ?side3 ?side4 ?side5 A3.out).mono ?_); (case side1 => repeat (first | exact (Kd.C_below HR0_0.out HB.out) | (with_reducible refine Kd.C_alloc ?_ _) | (with_reducible refine Kd.C_drewN ?_ _) | (with_reducible refine Kd.C_drew ?_))); (case side2 => exact HC0_0.out); (case side3 => repeat (first | exact (Kd.C_below HR0_1.out HB.out) | (with_reducible refine Kd.C_alloc ?_ _) | (with_reducible refine Kd.C_drewN ?_ _) | (with_reducible refine Kd.C_drew ?_))); (case side4 => exact HC0_1.out); (case side5 => exact ViewAt.of_blk (kZ BK424.out)); rintro e w' ⟨rfl, ⟨nd, rfl⟩⟩; refine ⟨_, rfl, ?_⟩))
  go_ret2
  exact ⟨_, eZ, by first | exact Kd.R_nil _ _ _ _ _ | exact Kd.N_nil _ _ _ _ _ | exact Kd.V_nil _ _ _ _ _ | exact Kd.Q_nil _ _ _ _ _ | exact Kd.S_nil _ _ _ _ _, bZ⟩
end Go.Proofs.YtadaegehdcngdaaGreatDoor.XV
end

section
namespace Go.Proofs.YtadaegehdcngdaaGreatDoor.XV
open Go.RowKit Go.Proofs.YtadaegehdcngdaaGreatDoorW.PrintWords Go.Proofs.YtadaegehdcngdaaGreatDoorW.PrintLast Go.Proofs.YtadaegehdcngdaaGreatDoorW.PrintMore
attribute [local go_sem] run_eql_slice_nil binOp_string_gtr' binOp_string_leq' binOp_string_geq' max2_int min2_int max_two min_two max_three min_three max_four min_four   -- for this text's walks alone
set_option linter.unusedVariables false
set_option linter.unusedSimpArgs false
def impl_allWithin.ok (a1 a2 x : Int) : Bool := decide (a1 ≤ x) && decide (x ≤ a2)
def impl_allWithin.f (l0 : List Int) (a1 : Int) (a2 : Int) : Option (Bool) := some (l0.all (impl_allWithin.ok a1 a2))
theorem impl_allWithin.ok_t {a1 a2 x : Int} (h1 : a1 ≤ x) (h2 : x ≤ a2) : impl_allWithin.ok a1 a2 x = true := by simp [impl_allWithin.ok, h1, h2]
theorem impl_allWithin.ok_f {a1 a2 x : Int} (h : ¬ (a1 ≤ x ∧ x ≤ a2)) : impl_allWithin.ok a1 a2 x = false := by simp only [impl_allWithin.ok, Bool.and_eq_false_iff, decide_eq_false_iff_not]; omega
theorem impl_allWithin.take_t {a1 a2 : Int} {l : List Int} {k : Nat} (hk : k < l.length) (h : ∀ x ∈ l.take k, impl_allWithin.ok a1 a2 x = true) (hx : impl_allWithin.ok a1 a2 (rd l k) = true) : ∀ x ∈ l.take (k + 1), impl_allWithin.ok a1 a2 x = true := by
 rw [List.take_succ_eq_append_getElem hk]
 intro x hm
 rcases List.mem_append.1 hm with hm | hm
 ·exact h x hm
 ·rw [List.mem_singleton.1 hm]
  have : rd l (k : Int) = l[k] := by unfold rd; simp [List.getD_eq_getElem?_getD, List.getElem?_eq_getElem hk]
  rwa [this] at hx
theorem impl_allWithin.f_all {a1 a2 : Int} {l : List Int} {r : Bool} (h : impl_allWithin.f l a1 a2 = some r) (ha : ∀ x ∈ l.take l.length, impl_allWithin.ok a1 a2 x = true) : r = true := by
 have := Option.some.inj h
 rw [← this, List.all_eq_true]
 simpa using ha
theorem impl_allWithin.f_no {a1 a2 : Int} {l : List Int} {r : Bool} {k : Nat} (h : impl_allWithin.f l a1 a2 = some r) (hk : k < l.length) (hx : impl_allWithin.ok a1 a2 (rd l k) = false) : r = false := by
 have := Option.some.inj h
 rw [← this, List.all_eq_false]
 have e : rd l (k : Int) = l[k] := by unfold rd; simp [List.getD_eq_getElem?_getD, List.getElem?_eq_getElem hk]
 exact ⟨l[k], List.getElem_mem hk, by rw [← e, hx]; simp⟩
set_option maxHeartbeats 2000000 in
set_option maxRecDepth 100000 in
theorem impl_allWithin.calls (A0 : Option Addr) (c0 : Nat) (l0 : List Int) (a1 : Int) (a2 : Int) (r : Bool) (w : World) (hr0 : Kd.C (Kd.int .i64) w A0 l0.length l0) (hc0 : l0.length ≤ c0) (h : impl_allWithin.f l0 a1 a2 = some r) :
  Calls Tryz.prog 67 #[.slice A0 l0.length c0, .int .i64 a1, .int .i64 a2] w fun e w' => e = .returned (.bool r) ∧ Below w.heap.size w w' := by
 have HL := Aside0.mk hr0.2.1
 have HR0 := Aside0.mk (Kd.C_below hr0 ((Below.refl w.heap.size w).alloc (Nat.le_refl _) (.cells #[.int .i64 a1] 2) |>.alloc (by simp) (.cells #[.int .i64 a2] 2)))
 have HC0 := Aside0.mk hc0
 have H := Aside0.mk h
 clear hr0 hc0 h
 go_enter Tryz.func67, Tryz.ntmps67
 go_wp2
 go_loop [8] (fun v => ∃ k : Nat, k ≤ l0.length ∧ v = .int .i64 k ∧ Aside0 (∀ x ∈ l0.take k, impl_allWithin.ok a1 a2 x = true)) (fun v => l0.length - (intOf v).toNat)
 case atStart => exact ⟨0, Nat.zero_le _, rfl, ⟨by simp⟩⟩
 case round =>
  obtain ⟨k, hk, rfl, hall⟩ := hrel
  have hmax := HL.out
  by_cases hlt : k < l0.length
  ·obtain ⟨ad, e, hx⟩ := Kd.at_int HR0.out (k : Int) (by omega) (by omega)
   cases e
   rw [Int.toNat_natCast] at hx
   by_cases h1 : a1 ≤ rd l0 k
   ·by_cases h2 : rd l0 k ≤ a2
    ·have HT := Aside0.mk (impl_allWithin.take_t hlt hall.out (impl_allWithin.ok_t h1 h2))
     clear hall
     go_wp2
     go_round
     case rel => exact ⟨k + 1, by omega, by go_num, HT⟩
     case measure => simp [intOf]; omega
    ·have HT := Aside0.mk (impl_allWithin.f_no H.out hlt (impl_allWithin.ok_f (by omega)))
     clear hall
     go_wp2
     go_ret
     exact ⟨by rw [HT.out]; rfl, (Below.refl w.heap.size w).alloc (Nat.le_refl _) (.cells #[.int .i64 a1] 2) |>.alloc (by simp) (.cells #[.int .i64 a2] 2)⟩
   ·have HT := Aside0.mk (impl_allWithin.f_no H.out hlt (impl_allWithin.ok_f (by omega)))
    clear hall
    go_wp2
    go_ret
    exact ⟨by rw [HT.out]; rfl, (Below.refl w.heap.size w).alloc (Nat.le_refl _) (.cells #[.int .i64 a1] 2) |>.alloc (by simp) (.cells #[.int .i64 a2] 2)⟩
  ·have hkl : k = l0.length := by omega
   subst hkl
   have HT := Aside0.mk (impl_allWithin.f_all H.out hall.out)
   clear hall
   go_wp2
   go_ret
   exact ⟨by rw [HT.out]; rfl, (Below.refl w.heap.size w).alloc (Nat.le_refl _) (.cells #[.int .i64 a1] 2) |>.alloc (by simp) (.cells #[.int .i64 a2] 2)⟩
def impl_within.f (a0 : Int) (a1 : Int) (a2 : Int) : Option (Bool) := if a0 ≥ a1 then (some (decide (a0 ≤ a2))) else (some false)
set_option maxHeartbeats 8000000 in
set_option maxRecDepth 100000 in
theorem impl_within.calls (a0 : Int) (a1 : Int) (a2 : Int) (r : Bool) (w : World) (h : impl_within.f a0 a1 a2 = some r) :
  Calls Tryz.prog 100 #[.int .i64 a0, .int .i64 a1, .int .i64 a2] w fun e w' => e = .returned (.bool r) ∧ Drawn0 w w' := by
 have H : (if a0 ≥ a1 then (some (decide (a0 ≤ a2))) else (some false)) = some r := h
 clear h
 by_cases c4 : a0 ≥ a1
 ·rw [if_pos c4] at H
  have c4b0 : decide (a1 ≤ a0) = true := decide_eq_true c4
  clear c4
  obtain rfl := Option.some.inj H
  go_enter Tryz.func100, Tryz.ntmps100
  go_wp2
  go_ret
  exact ⟨sZ, dZ⟩
 ·rw [if_neg c4] at H
  have c4b0 : decide (a1 ≤ a0) = false := decide_eq_false c4
  clear c4
  obtain rfl := Option.some.inj H
  go_enter Tryz.func100, Tryz.ntmps100
  go_wp2
  go_ret
  exact ⟨sZ, dZ⟩
end Go.Proofs.YtadaegehdcngdaaGreatDoor.XV
end

section
namespace Go.Proofs.YtadaegehdcngdaaGreatDoor.XV
open Go.RowKit Go.Proofs.YtadaegehdcngdaaGreatDoorW.PrintWords Go.Proofs.YtadaegehdcngdaaGreatDoorW.PrintLast Go.Proofs.YtadaegehdcngdaaGreatDoorW.PrintMore
attribute [local go_sem] run_eql_slice_nil binOp_string_gtr' binOp_string_leq' binOp_string_geq' max2_int min2_int max_two min_two max_three min_three max_four min_four   -- for this text's walks alone
set_option linter.unusedVariables false
set_option linter.unusedSimpArgs false
def impl_onlyNameBytes.l0 : Nat → ByteArray → Int → Int → Option (Bool)
 | 0, _, _, _ => none
 | k + 1, x0, x6, x7 => if x7 < x6 then (if 0 ≤ x7 then (if x7 < (x0.size : Int) then (if (bt x0 x7) < 97 then (if (bt x0 x7) < 48 then (some false) else (if (bt x0 x7) > 57 then (some false) else (impl_onlyNameBytes.l0 k x0 x6 (wrap64 (x7 + 1))))) else (if (bt x0 x7) > 122 then (if (bt x0 x7) < 48 then (some false) else (if (bt x0 x7) > 57 then (some false) else (impl_onlyNameBytes.l0 k x0 x6 (wrap64 (x7 + 1))))) else (impl_onlyNameBytes.l0 k x0 x6 (wrap64 (x7 + 1))))) else (none)) else (none)) else (some true)
def impl_onlyNameBytes.f (k : Nat) (a0 : ByteArray) : Option (Bool) := impl_onlyNameBytes.l0 k a0 (a0.size : Int) 0
set_option maxHeartbeats 8000000 in
set_option maxRecDepth 100000 in
theorem impl_onlyNameBytes.calls (k : Nat) (a0 : ByteArray) (r : Bool) (w : World) (h : impl_onlyNameBytes.f k a0 = some r) :
  Calls Tryz.prog 142 #[.string a0] w fun e w' => e = .returned (.bool r) ∧ Drawn0 w w' := by
 have H : (impl_onlyNameBytes.l0 k a0 (a0.size : Int) 0) = some r := h
 clear h
 have H' := Aside0.mk H
 clear H
 go_enter Tryz.func142, Tryz.ntmps142
 go_wp2
 go_loopg [7] k (fun kq v7 w' => ∃ (x7_1 : Int), v7 = .int .i64 x7_1 ∧ Aside0 (impl_onlyNameBytes.l0 kq a0 (a0.size : Int) x7_1 = some r) ∧ Aside0 (kq ≤ k) ∧ Drawn0 w w')
 case atStart => exact ⟨(0), sZ, H', ⟨Nat.le_refl _⟩, dZ⟩
 case round =>
  clear H'; (try clear c1)
  obtain ⟨x7_1, rfl, HA, HK1, ⟨m1, rfl⟩⟩ := hrel
  cases gk with
  | zero => exact absurd HA.out (by simp [impl_onlyNameBytes.l0])
  | succ k1 =>
   have H := HA.out
   clear HA
   simp only [impl_onlyNameBytes.l0] at H
   by_cases c2 : x7_1 < (a0.size : Int)
   ·rw [if_pos c2] at H
    have c2b0 : decide (x7_1 < (a0.size : Int)) = true := decide_eq_true c2
    clear c2
    by_cases c3 : 0 ≤ x7_1
    ·rw [if_pos c3] at H
     have c3b0 : decide (0 ≤ x7_1) = true := decide_eq_true c3
     clear c3
     by_cases c4 : x7_1 < (a0.size : Int)
     ·rw [if_pos c4] at H
      have c4b0 : decide (x7_1 < (a0.size : Int)) = true := decide_eq_true c4
      clear c4
      by_cases c6 : (bt a0 x7_1) < 97
      ·rw [if_pos c6] at H
       have c6b0 : decide ((bt a0 x7_1) < 97) = true := decide_eq_true c6
       clear c6
       by_cases c7 : (bt a0 x7_1) < 48
       ·rw [if_pos c7] at H
        have c7b0 : decide ((bt a0 x7_1) < 48) = true := decide_eq_true c7
        clear c7
        obtain rfl := Option.some.inj H
        have p5 : 0 ≤ (x7_1 : Int) := oZ
        have q5 : x7_1 < (a0.size : Int) := oZ
        have hx5 := bt_at a0 x7_1
        replace p5 := eq_true p5
        replace q5 := eq_true q5
        go_wp2
        go_ret
        exact ⟨sZ, dZ⟩
       ·rw [if_neg c7] at H
        have c7b0 : decide ((bt a0 x7_1) < 48) = false := decide_eq_false c7
        clear c7
        by_cases c8 : (bt a0 x7_1) > 57
        ·rw [if_pos c8] at H
         have c8b0 : decide (57 < (bt a0 x7_1)) = true := decide_eq_true c8
         clear c8
         obtain rfl := Option.some.inj H
         have p5 : 0 ≤ (x7_1 : Int) := oZ
         have q5 : x7_1 < (a0.size : Int) := oZ
         have hx5 := bt_at a0 x7_1
         replace p5 := eq_true p5
         replace q5 := eq_true q5
         go_wp2
         go_ret
         exact ⟨sZ, dZ⟩
        ·rw [if_neg c8] at H
         have c8b0 : decide (57 < (bt a0 x7_1)) = false := decide_eq_false c8
         clear c8
         have H' := Aside0.mk H
         clear H
         have p5 : 0 ≤ (x7_1 : Int) := oZ
         have q5 : x7_1 < (a0.size : Int) := oZ
         have hx5 := bt_at a0 x7_1
         replace p5 := eq_true p5
         replace q5 := eq_true q5
         go_wp2
         go_roundg k1
         case measure => have := HK1.out; omega
         case rel => exact ⟨(wrap64 (x7_1 + 1)), sZ, H', ⟨by have := HK1.out; omega⟩, dZ⟩
      ·rw [if_neg c6] at H
       have c6b0 : decide ((bt a0 x7_1) < 97) = false := decide_eq_false c6
       clear c6
       by_cases c9 : (bt a0 x7_1) > 122
       ·rw [if_pos c9] at H
        have c9b0 : decide (122 < (bt a0 x7_1)) = true := decide_eq_true c9
        clear c9
        by_cases c10 : (bt a0 x7_1) < 48
        ·rw [if_pos c10] at H
         have c10b0 : decide ((bt a0 x7_1) < 48) = true := decide_eq_true c10
         clear c10
         obtain rfl := Option.some.inj H
         have p5 : 0 ≤ (x7_1 : Int) := oZ
         have q5 : x7_1 < (a0.size : Int) := oZ
         have hx5 := bt_at a0 x7_1
         replace p5 := eq_true p5
         replace q5 := eq_true q5
         go_wp2
         go_ret
         exact ⟨sZ, dZ⟩
        ·rw [if_neg c10] at H
         have c10b0 : decide ((bt a0 x7_1) < 48) = false := decide_eq_false c10
         clear c10
         by_cases c11 : (bt a0 x7_1) > 57
         ·rw [if_pos c11] at H
          have c11b0 : decide (57 < (bt a0 x7_1)) = true := decide_eq_true c11
          clear c11
          obtain rfl := Option.some.inj H
          have p5 : 0 ≤ (x7_1 : Int) := oZ
          have q5 : x7_1 < (a0.size : Int) := oZ
          have hx5 := bt_at a0 x7_1
          replace p5 := eq_true p5
          replace q5 := eq_true q5
          go_wp2
          go_ret
          exact ⟨sZ, dZ⟩
         ·rw [if_neg c11] at H
          have c11b0 : decide (57 < (bt a0 x7_1)) = false := decide_eq_false c11
          clear c11
          have H' := Aside0.mk H
          clear H
          have p5 : 0 ≤ (x7_1 : Int) := oZ
          have q5 : x7_1 < (a0.size : Int) := oZ
          have hx5 := bt_at a0 x7_1
          replace p5 := eq_true p5
          replace q5 := eq_true q5
          go_wp2
          go_roundg k1
          case measure => have := HK1.out; omega
          case rel => exact ⟨(wrap64 (x7_1 + 1)), sZ, H', ⟨by have := HK1.out; omega⟩, dZ⟩
       ·rw [if_neg c9] at H
        have c9b0 : decide (122 < (bt a0 x7_1)) = false := decide_eq_false c9
        clear c9
        have H' := Aside0.mk H
        clear H
        have p5 : 0 ≤ (x7_1 : Int) := oZ
        have q5 : x7_1 < (a0.size : Int) := oZ
        have hx5 := bt_at a0 x7_1
        replace p5 := eq_true p5
        replace q5 := eq_true q5
        go_wp2
        go_roundg k1
        case measure => have := HK1.out; omega
        case rel => exact ⟨(wrap64 (x7_1 + 1)), sZ, H', ⟨by have := HK1.out; omega⟩, dZ⟩
     ·rw [if_neg c4] at H
      exact absurd H (by simp)
    ·rw [if_neg c3] at H
     exact absurd H (by simp)
   ·rw [if_neg c2] at H
    have c2b0 : decide (x7_1 < (a0.size : Int)) = false := decide_eq_false c2
    clear c2
    obtain rfl := Option.some.inj H
    go_wp2
    go_ret
    exact ⟨sZ, dZ⟩
end Go.Proofs.YtadaegehdcngdaaGreatDoor.XV
end

section
namespace Go.Proofs.YtadaegehdcngdaaGreatDoor.XV
open Go.RowKit Go.Proofs.YtadaegehdcngdaaGreatDoorW.PrintWords Go.Proofs.YtadaegehdcngdaaGreatDoorW.PrintLast Go.Proofs.YtadaegehdcngdaaGreatDoorW.PrintMore
attribute [local go_sem] run_eql_slice_nil binOp_string_gtr' binOp_string_leq' binOp_string_geq' max2_int min2_int max_two min_two max_three min_three max_four min_four   -- for this text's walks alone
set_option linter.unusedVariables false
set_option linter.unusedSimpArgs false
def impl_IsName.f (k : Nat) (a0 : ByteArray) : Option (Bool) := if (a0.size : Int) < 1 then (some false) else (if (a0.size : Int) > 10 then (some false) else (if 0 < (a0.size : Int) then (if (bt a0 0) < 97 then (some false) else (if (bt a0 0) > 122 then (some false) else ((impl_onlyNameBytes.f k a0).bind fun t238 => (some t238)))) else (none)))
set_option maxHeartbeats 8000000 in
set_option maxRecDepth 100000 in
theorem impl_IsName.calls (k : Nat) (a0 : ByteArray) (r : Bool) (w : World) (h : impl_IsName.f k a0 = some r) :
  Calls Tryz.prog 101 #[.string a0] w fun e w' => e = .returned (.bool r) ∧ Drawn0 w w' := by
 have H : (if (a0.size : Int) < 1 then (some false) else (if (a0.size : Int) > 10 then (some false) else (if 0 < (a0.size : Int) then (if (bt a0 0) < 97 then (some false) else (if (bt a0 0) > 122 then (some false) else ((impl_onlyNameBytes.f k a0).bind fun t238 => (some t238)))) else (none)))) = some r := h
 clear h
 by_cases c2 : (a0.size : Int) < 1
 ·rw [if_pos c2] at H
  have c2b0 : decide ((a0.size : Int) < 1) = true := decide_eq_true c2
  have c2b1 : decide (a0.size < 1) = true := decide_eq_true (by omega)
  clear c2
  obtain rfl := Option.some.inj H
  go_enter Tryz.func101, Tryz.ntmps101
  go_wp2
  go_ret
  exact ⟨sZ, dZ⟩
 ·rw [if_neg c2] at H
  have c2b0 : decide ((a0.size : Int) < 1) = false := decide_eq_false c2
  have c2b1 : decide (a0.size < 1) = false := decide_eq_false (by omega)
  clear c2
  by_cases c3 : (a0.size : Int) > 10
  ·rw [if_pos c3] at H
   have c3b0 : decide (10 < (a0.size : Int)) = true := decide_eq_true c3
   have c3b1 : decide (10 < a0.size) = true := decide_eq_true (by omega)
   clear c3
   obtain rfl := Option.some.inj H
   go_enter Tryz.func101, Tryz.ntmps101
   go_wp2
   go_ret
   exact ⟨sZ, dZ⟩
  ·rw [if_neg c3] at H
   have c3b0 : decide (10 < (a0.size : Int)) = false := decide_eq_false c3
   have c3b1 : decide (10 < a0.size) = false := decide_eq_false (by omega)
   clear c3
   by_cases c4 : 0 < (a0.size : Int)
   ·rw [if_pos c4] at H
    have c4b0 : decide (0 < (a0.size : Int)) = true := decide_eq_true c4
    have c4b1 : decide (0 < a0.size) = true := decide_eq_true (by omega)
    clear c4
    by_cases c6 : (bt a0 0) < 97
    ·rw [if_pos c6] at H
     have c6b0 : decide ((bt a0 0) < 97) = true := decide_eq_true c6
     clear c6
     obtain rfl := Option.some.inj H
     have p5 : 0 ≤ (0 : Int) := (by omega)
     have q5 : 0 < a0.size := (by have : (0 : Int) < (a0.size : Int) := oZ; omega)
     have hx5 : ∀ h : 0 < a0.size, ((a0[0]'h).toNat : Int) = bt a0 0 := bt_at a0 0
     clear p5
     have qi5 : (0 < (a0.size : Int)) = True := eq_true oZ
     replace q5 := eq_true q5
     go_enter Tryz.func101, Tryz.ntmps101
     go_wp2
     go_ret
     exact ⟨sZ, dZ⟩
    ·rw [if_neg c6] at H
     have c6b0 : decide ((bt a0 0) < 97) = false := decide_eq_false c6
     clear c6
     by_cases c8 : (bt a0 0) > 122
     ·rw [if_pos c8] at H
      have c8b0 : decide (122 < (bt a0 0)) = true := decide_eq_true c8
      clear c8
      obtain rfl := Option.some.inj H
      have p5 : 0 ≤ (0 : Int) := (by omega)
      have q5 : 0 < a0.size := (by have : (0 : Int) < (a0.size : Int) := oZ; omega)
      have hx5 : ∀ h : 0 < a0.size, ((a0[0]'h).toNat : Int) = bt a0 0 := bt_at a0 0
      clear p5
      have qi5 : (0 < (a0.size : Int)) = True := eq_true oZ
      replace q5 := eq_true q5
      have p7 : 0 ≤ (0 : Int) := (by omega)
      have q7 : 0 < a0.size := (by have : (0 : Int) < (a0.size : Int) := oZ; omega)
      have hx7 : ∀ h : 0 < a0.size, ((a0[0]'h).toNat : Int) = bt a0 0 := bt_at a0 0
      clear p7
      have qi7 : (0 < (a0.size : Int)) = True := eq_true oZ
      replace q7 := eq_true q7
      go_enter Tryz.func101, Tryz.ntmps101
      go_wp2
      go_ret
      exact ⟨sZ, dZ⟩
     ·rw [if_neg c8] at H
      have c8b0 : decide (122 < (bt a0 0)) = false := decide_eq_false c8
      clear c8
      replace H := Option.bind_eq_some_iff.mp H
      obtain ⟨t238, A90, H⟩ := H
      replace H : (some t238) = some r := H
      have A9 := Aside0.mk A90
      clear A90
      obtain rfl := Option.some.inj H
      have p5 : 0 ≤ (0 : Int) := (by omega)
      have q5 : 0 < a0.size := (by have : (0 : Int) < (a0.size : Int) := oZ; omega)
      have hx5 : ∀ h : 0 < a0.size, ((a0[0]'h).toNat : Int) = bt a0 0 := bt_at a0 0
      clear p5
      have qi5 : (0 < (a0.size : Int)) = True := eq_true oZ
      replace q5 := eq_true q5
      have p7 : 0 ≤ (0 : Int) := (by omega)
      have q7 : 0 < a0.size := (by have : (0 : Int) < (a0.size : Int) := oZ; omega)
      have hx7 : ∀ h : 0 < a0.size, ((a0[0]'h).toNat : Int) = bt a0 0 := bt_at a0 0
      clear p7
      have qi7 : (0 < (a0.size : Int)) = True := eq_true oZ
      replace q7 := eq_true q7
      go_enter Tryz.func101, Tryz.ntmps101
      go_wp2_with (first | ((with_reducible refine gate_callee (f := 142) rfl ?_); refine goesL_ (some 22) rfl rfl Tryz.func142 (by kernel_rfl) rfl #[.string a0] rfl gZ ?_; (with_reducible refine (impl_onlyNameBytes.calls k a0 t238 _ A9.out).mono ?_); rintro e w' ⟨rfl, ⟨nd, rfl⟩⟩; refine ⟨_, rfl, ?_⟩))
      go_ret
      exact ⟨sZ, dZ⟩
   ·rw [if_neg c4] at H
    exact absurd H (by simp)
def impl_nodeOk.f (a0 : Int) : Option (Bool) := (impl_within.f a0 0 15).bind fun t239 => (some t239)
set_option maxHeartbeats 8000000 in
set_option maxRecDepth 100000 in
theorem impl_nodeOk.calls (a0 : Int) (r : Bool) (w : World) (h : impl_nodeOk.f a0 = some r) :
  Calls Tryz.prog 102 #[.int .i64 a0] w fun e w' => e = .returned (.bool r) ∧ Drawn0 w w' := by
 have H : ((impl_within.f a0 0 15).bind fun t239 => (some t239)) = some r := h
 clear h
 replace H := Option.bind_eq_some_iff.mp H
 obtain ⟨t239, A20, H⟩ := H
 replace H : (some t239) = some r := H
 have A2 := Aside0.mk A20
 clear A20
 obtain rfl := Option.some.inj H
 go_enter Tryz.func102, Tryz.ntmps102
 go_wp2_with (first | ((with_reducible refine gate_callee (f := 100) rfl ?_); refine goesL_ (some 4) rfl rfl Tryz.func100 (by kernel_rfl) rfl #[.int .i64 a0, .int .i64 0, .int .i64 15] rfl gZ ?_; (with_reducible refine (impl_within.calls a0 0 15 t239 _ A2.out).mono ?_); rintro e w' ⟨rfl, ⟨nd, rfl⟩⟩; refine ⟨_, rfl, ?_⟩))
 go_ret
 exact ⟨sZ, dZ⟩
end Go.Proofs.YtadaegehdcngdaaGreatDoor.XV
end
