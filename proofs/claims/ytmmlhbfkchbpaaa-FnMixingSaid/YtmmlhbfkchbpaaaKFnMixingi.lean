/- The law FnMixing: part 8 of its texts, joined (wip/pack.py). -/
import Derived.Test.YtmmlhbfkchbpaaaKFnMixinga
import Derived.Test.YtmmlhbfkchbpaaaKFnMixingb
import Derived.Test.YtmmlhbfkchbpaaaKFnMixingc
import Derived.Test.YtmmlhbfkchbpaaaKFnMixingd
import Derived.Test.YtmmlhbfkchbpaaaKFnMixinge
import Derived.Test.YtmmlhbfkchbpaaaKFnMixingf
import Derived.Test.YtmmlhbfkchbpaaaKFnMixingg
import Derived.Test.YtmmlhbfkchbpaaaKFnMixingh
import Derived.Deep.MidRow
import Derived.Deep.Slices
import Derived.SizedLaws
import Derived.ChangeArms
import Derived.WideShapes
import Derived.Lib.Strings
import Derived.Lib.IndexLaws
import Derived.Lib.IndexBytes
import Derived.Lib.IndexMore

section
namespace Go.Proofs.Ytmmlhbfkchbpaaa.XX
open Go.RowKit Go.Proofs.YtmmlhbfkchbpaaaW.PrintWords Go.Proofs.YtmmlhbfkchbpaaaW.PrintLast Go.Proofs.YtmmlhbfkchbpaaaW.PrintMore
attribute [local go_sem] run_eql_slice_nil binOp_string_gtr' binOp_string_leq' binOp_string_geq' max2_int min2_int max_two min_two max_three min_three max_four min_four   -- for this text's walks alone
set_option linter.unusedVariables false
set_option linter.unusedSimpArgs false
def spec_l03Delay.f (a0_0 : ByteArray) (a0_1 : Int) (a0_2 : Int) (a0_3 : Int) (a0_4 : Int) (a0_5 : Int) (a1 : Int) : Option (Int) := (spec_l03Water.f a0_0 a0_1 a0_2 a0_3 a0_4 a0_5).bind fun t352 => ((spec_l03Abs.f a1).bind fun t353 => ((spec_l03Abs.f a1).bind fun t354 => (if t354 = 0 then (none) else (some (wrap64 (Int.tdiv (wrap64 ((wrap64 (t352 + t353)) - 1)) t354))))))
set_option maxHeartbeats 8000000 in
set_option maxRecDepth 100000 in
theorem spec_l03Delay.calls (v0 : Addr) (a0_0 : ByteArray) (a0_1 : Int) (a0_2 : Int) (a0_3 : Int) (a0_4 : Int) (a0_5 : Int) (a1 : Int) (r : Int) (w : World) (hv0 : ViewAt w v0 [.string a0_0, .int .i64 a0_1, .int .i64 a0_2, .int .i64 a0_3, .int .i64 a0_4, .int .i64 a0_5]) (h : spec_l03Delay.f a0_0 a0_1 a0_2 a0_3 a0_4 a0_5 a1 = some r) :
  Calls Try.prog 45 #[.pointer (some v0), .int .i64 a1] w fun e w' => e = .returned (.int .i64 r) ∧ Drawn0 w w' := by
 have HV0 := Aside0.mk hv0
 have hvw0_0 : w.cell? v0 = some (.string a0_0) := hv0.at0
 have hvw0_1 : w.cell? ⟨v0.block, v0.off + 1, none⟩ = some (.int .i64 a0_1) := hv0.at_ 1 (by decide) rfl
 have hvw0_2 : w.cell? ⟨v0.block, v0.off + 2, none⟩ = some (.int .i64 a0_2) := hv0.at_ 2 (by decide) rfl
 have hvw0_3 : w.cell? ⟨v0.block, v0.off + 3, none⟩ = some (.int .i64 a0_3) := hv0.at_ 3 (by decide) rfl
 have hvw0_4 : w.cell? ⟨v0.block, v0.off + 4, none⟩ = some (.int .i64 a0_4) := hv0.at_ 4 (by decide) rfl
 have hvw0_5 : w.cell? ⟨v0.block, v0.off + 5, none⟩ = some (.int .i64 a0_5) := hv0.at_ 5 (by decide) rfl
 clear hv0
 have H : ((spec_l03Water.f a0_0 a0_1 a0_2 a0_3 a0_4 a0_5).bind fun t352 => ((spec_l03Abs.f a1).bind fun t353 => ((spec_l03Abs.f a1).bind fun t354 => (if t354 = 0 then (none) else (some (wrap64 (Int.tdiv (wrap64 ((wrap64 (t352 + t353)) - 1)) t354))))))) = some r := h
 clear h
 replace H := Option.bind_eq_some_iff.mp H
 obtain ⟨t352, A30, H⟩ := H
 replace H : ((spec_l03Abs.f a1).bind fun t353 => ((spec_l03Abs.f a1).bind fun t354 => (if t354 = 0 then (none) else (some (wrap64 (Int.tdiv (wrap64 ((wrap64 (t352 + t353)) - 1)) t354)))))) = some r := H
 have A3 := Aside0.mk A30
 clear A30
 replace H := Option.bind_eq_some_iff.mp H
 obtain ⟨t353, A40, H⟩ := H
 replace H : ((spec_l03Abs.f a1).bind fun t354 => (if t354 = 0 then (none) else (some (wrap64 (Int.tdiv (wrap64 ((wrap64 (t352 + t353)) - 1)) t354))))) = some r := H
 have A4 := Aside0.mk A40
 clear A40
 replace H := Option.bind_eq_some_iff.mp H
 obtain ⟨t354, A50, H⟩ := H
 replace H : (if t354 = 0 then (none) else (some (wrap64 (Int.tdiv (wrap64 ((wrap64 (t352 + t353)) - 1)) t354)))) = some r := H
 have A5 := Aside0.mk A50
 clear A50
 by_cases c6 : t354 = 0
 ·rw [if_pos c6] at H
  exact absurd H (by simp)
 ·rw [if_neg c6] at H
  have c6b0 : (t354 == 0) = false := beq_eq_false_iff_ne.mpr c6
  have c6b1 : (t354 != 0) = true := bne_iff_ne.mpr c6
  obtain rfl := Option.some.inj H
  go_enter Try.func45, Try.ntmps45
  go_wp2_with (first | ((with_reducible refine gate_callee (f := 68) rfl ?_); refine goesL_ (some 6) rfl rfl Try.func68 (by kernel_rfl) rfl #[.pointer (some v0)] rfl gZ ?_; (with_reducible refine (spec_l03Water.calls _ a0_0 a0_1 a0_2 a0_3 a0_4 a0_5 t352 _ ?side1 A3.out).mono ?_); (case side1 => exact HV0.out); rintro e w' ⟨rfl, ⟨nd, rfl⟩⟩; refine ⟨_, rfl, ?_⟩) | ((with_reducible refine gate_callee (f := 69) rfl ?_); refine goesL_ (some 8) rfl rfl Try.func69 (by kernel_rfl) rfl #[.int .i64 a1] rfl gZ ?_; (with_reducible refine (spec_l03Abs.calls a1 t353 _ A4.out).mono ?_); rintro e w' ⟨rfl, ⟨nd, rfl⟩⟩; refine ⟨_, rfl, ?_⟩) | ((with_reducible refine gate_callee (f := 69) rfl ?_); refine goesL_ (some 12) rfl rfl Try.func69 (by kernel_rfl) rfl #[.int .i64 a1] rfl gZ ?_; (with_reducible refine (spec_l03Abs.calls a1 t354 _ A5.out).mono ?_); rintro e w' ⟨rfl, ⟨nd, rfl⟩⟩; refine ⟨_, rfl, ?_⟩))
  go_ret
  exact ⟨sZ, dZ⟩
def spec_DelayOf.f (k : Nat) (a0_0 : ByteArray) (a0_1 : Int) (a0_2 : Int) (a0_3 : Int) (a0_4 : Int) (a0_5 : Int) (a1 : Int) : Option (Int × Int) := (spec_l03Ask.f k a0_0 a0_1 a0_2 a0_3 a0_4 a0_5 a1).bind fun t356 => (if t356 = 0 then (if a1 = 0 then (some (0, 6)) else ((spec_l03Delay.f a0_0 a0_1 a0_2 a0_3 a0_4 a0_5 a1).bind fun t357 => (some (t357, 0)))) else (some (0, t356)))
set_option maxHeartbeats 8000000 in
set_option maxRecDepth 100000 in
theorem spec_DelayOf.calls (k : Nat) (a0_0 : ByteArray) (a0_1 : Int) (a0_2 : Int) (a0_3 : Int) (a0_4 : Int) (a0_5 : Int) (a1 : Int) (r1 : Int) (r2 : Int) (w : World) (h : spec_DelayOf.f k a0_0 a0_1 a0_2 a0_3 a0_4 a0_5 a1 = some (r1, r2)) :
  Calls Try.prog 15 #[.agg #[.string a0_0, .int .i64 a0_1, .int .i64 a0_2, .int .i64 a0_3, .int .i64 a0_4, .int .i64 a0_5], .int .i64 a1] w fun e w' => e = .returned (.tuple #[.int .i64 r1, .int .i64 r2]) ∧ Below w.heap.size w w' := by
 have hu37 := Try.underlying37
 have HB := Aside0.mk (Below.refl w.heap.size w)
 have H : ((spec_l03Ask.f k a0_0 a0_1 a0_2 a0_3 a0_4 a0_5 a1).bind fun t356 => (if t356 = 0 then (if a1 = 0 then (some (0, 6)) else ((spec_l03Delay.f a0_0 a0_1 a0_2 a0_3 a0_4 a0_5 a1).bind fun t357 => (some (t357, 0)))) else (some (0, t356)))) = some (r1, r2) := h
 clear h
 replace H := Option.bind_eq_some_iff.mp H
 obtain ⟨t356, A30, H⟩ := H
 replace H : (if t356 = 0 then (if a1 = 0 then (some (0, 6)) else ((spec_l03Delay.f a0_0 a0_1 a0_2 a0_3 a0_4 a0_5 a1).bind fun t357 => (some (t357, 0)))) else (some (0, t356))) = some (r1, r2) := H
 have A3 := Aside0.mk A30
 clear A30
 by_cases c4 : t356 = 0
 ·rw [if_pos c4] at H
  have c4b0 : (t356 == 0) = true := beq_iff_eq.mpr c4
  have c4b1 : (t356 != 0) = false := bne_eq_false_iff_eq.mpr c4
  clear c4
  by_cases c5 : a1 = 0
  ·rw [if_pos c5] at H
   have c5b0 : (a1 == 0) = true := beq_iff_eq.mpr c5
   have c5b1 : (a1 != 0) = false := bne_eq_false_iff_eq.mpr c5
   clear c5
   simp only [Option.some.injEq, Prod.mk.injEq] at H
   obtain ⟨rfl, rfl⟩ := H
   go_enter Try.func15, Try.ntmps15
   go_wp2_with (first | ((with_reducible refine gate_dst (N := 2) rfl ?_); refine boxZ 2 #[.string a0_0, .int .i64 a0_1, .int .i64 a0_2, .int .i64 a0_3, .int .i64 a0_4, .int .i64 a0_5] 37 rfl rfl ?_; intro gb355 hg w6 hbox hb; have n0_ := Aside0.mk (below_step bZ hb); have n1_ := Aside0.mk (hbox); have n2_ := Aside0.mk ((by rw [hg]; exact bsZ : w.heap.size ≤ gb355)); have n3_ := Aside0.mk ((by rw [hg]; exact bsZ : w.heap.size ≤ gb355)); clear HB; have HB := n0_; have BK355 := n1_; have GW355 := n2_; have GE355 := n3_; clear n0_ n1_ n2_ n3_; clear hb hbox hg) | ((with_reducible refine gate_callee (f := 44) rfl ?_); refine goesL_ (some 8) rfl rfl Try.func44 (by kernel_rfl) rfl #[.pointer (some ⟨gb355, 0, none⟩), .int .i64 a1] rfl gZ ?_; (with_reducible refine (spec_l03Ask.calls k _ a0_0 a0_1 a0_2 a0_3 a0_4 a0_5 a1 t356 _ ?side1 A3.out).mono ?_); (case side1 => exact ViewAt.of_blk (kZ BK355.out)); rintro e w' ⟨rfl, ⟨nd, rfl⟩⟩; refine ⟨_, rfl, ?_⟩))
   go_ret2
   exact ⟨eZ, bZ⟩
  ·rw [if_neg c5] at H
   have c5b0 : (a1 == 0) = false := beq_eq_false_iff_ne.mpr c5
   have c5b1 : (a1 != 0) = true := bne_iff_ne.mpr c5
   replace H := Option.bind_eq_some_iff.mp H
   obtain ⟨t357, A70, H⟩ := H
   replace H : (some (t357, 0)) = some (r1, r2) := H
   have A7 := Aside0.mk A70
   clear A70
   simp only [Option.some.injEq, Prod.mk.injEq] at H
   obtain ⟨rfl, rfl⟩ := H
   go_enter Try.func15, Try.ntmps15
   go_wp2_with (first | ((with_reducible refine gate_dst (N := 2) rfl ?_); refine boxZ 2 #[.string a0_0, .int .i64 a0_1, .int .i64 a0_2, .int .i64 a0_3, .int .i64 a0_4, .int .i64 a0_5] 37 rfl rfl ?_; intro gb355 hg w8 hbox hb; have n0_ := Aside0.mk (below_step bZ hb); have n1_ := Aside0.mk (hbox); have n2_ := Aside0.mk ((by rw [hg]; exact bsZ : w.heap.size ≤ gb355)); have n3_ := Aside0.mk ((by rw [hg]; exact bsZ : w.heap.size ≤ gb355)); clear HB; have HB := n0_; have BK355 := n1_; have GW355 := n2_; have GE355 := n3_; clear n0_ n1_ n2_ n3_; clear hb hbox hg) | ((with_reducible refine gate_callee (f := 44) rfl ?_); refine goesL_ (some 8) rfl rfl Try.func44 (by kernel_rfl) rfl #[.pointer (some ⟨gb355, 0, none⟩), .int .i64 a1] rfl gZ ?_; (with_reducible refine (spec_l03Ask.calls k _ a0_0 a0_1 a0_2 a0_3 a0_4 a0_5 a1 t356 _ ?side1 A3.out).mono ?_); (case side1 => exact ViewAt.of_blk (kZ BK355.out)); rintro e w' ⟨rfl, ⟨nd, rfl⟩⟩; refine ⟨_, rfl, ?_⟩) | ((with_reducible refine gate_callee (f := 45) rfl ?_); refine goesL_ (some 15) rfl rfl Try.func45 (by kernel_rfl) rfl #[.pointer (some ⟨gb355, 0, none⟩), .int .i64 a1] rfl gZ ?_; (with_reducible refine (spec_l03Delay.calls _ a0_0 a0_1 a0_2 a0_3 a0_4 a0_5 a1 t357 _ ?side1 A7.out).mono ?_); (case side1 => exact ViewAt.of_blk (kZ BK355.out)); rintro e w' ⟨rfl, ⟨nd, rfl⟩⟩; refine ⟨_, rfl, ?_⟩))
   go_ret2
   exact ⟨eZ, bZ⟩
 ·rw [if_neg c4] at H
  have c4b0 : (t356 == 0) = false := beq_eq_false_iff_ne.mpr c4
  have c4b1 : (t356 != 0) = true := bne_iff_ne.mpr c4
  simp only [Option.some.injEq, Prod.mk.injEq] at H
  obtain ⟨rfl, rfl⟩ := H
  go_enter Try.func15, Try.ntmps15
  go_wp2_with (first | ((with_reducible refine gate_dst (N := 2) rfl ?_); refine boxZ 2 #[.string a0_0, .int .i64 a0_1, .int .i64 a0_2, .int .i64 a0_3, .int .i64 a0_4, .int .i64 a0_5] 37 rfl rfl ?_; intro gb355 hg w9 hbox hb; have n0_ := Aside0.mk (below_step bZ hb); have n1_ := Aside0.mk (hbox); have n2_ := Aside0.mk ((by rw [hg]; exact bsZ : w.heap.size ≤ gb355)); have n3_ := Aside0.mk ((by rw [hg]; exact bsZ : w.heap.size ≤ gb355)); clear HB; have HB := n0_; have BK355 := n1_; have GW355 := n2_; have GE355 := n3_; clear n0_ n1_ n2_ n3_; clear hb hbox hg) | ((with_reducible refine gate_callee (f := 44) rfl ?_); refine goesL_ (some 8) rfl rfl Try.func44 (by kernel_rfl) rfl #[.pointer (some ⟨gb355, 0, none⟩), .int .i64 a1] rfl gZ ?_; (with_reducible refine (spec_l03Ask.calls k _ a0_0 a0_1 a0_2 a0_3 a0_4 a0_5 a1 t356 _ ?side1 A3.out).mono ?_); (case side1 => exact ViewAt.of_blk (kZ BK355.out)); rintro e w' ⟨rfl, ⟨nd, rfl⟩⟩; refine ⟨_, rfl, ?_⟩))
  go_ret2
  exact ⟨eZ, bZ⟩
def spec_l03Loss.f (a0_0 : ByteArray) (a0_1 : Int) (a0_2 : Int) (a0_3 : Int) (a0_4 : Int) (a0_5 : Int) (a1 : Int) (a2 : Int) : Option (Int) := (spec_l01Div.f (wrap64 ((wrap64 (a0_5 * a0_3)) * (wrap64 (a1 - a2)))) 100000).bind fun t358 => (some t358)
set_option maxHeartbeats 8000000 in
set_option maxRecDepth 100000 in
theorem spec_l03Loss.calls (v0 : Addr) (a0_0 : ByteArray) (a0_1 : Int) (a0_2 : Int) (a0_3 : Int) (a0_4 : Int) (a0_5 : Int) (a1 : Int) (a2 : Int) (r : Int) (w : World) (hv0 : ViewAt w v0 [.string a0_0, .int .i64 a0_1, .int .i64 a0_2, .int .i64 a0_3, .int .i64 a0_4, .int .i64 a0_5]) (h : spec_l03Loss.f a0_0 a0_1 a0_2 a0_3 a0_4 a0_5 a1 a2 = some r) :
  Calls Try.prog 71 #[.pointer (some v0), .int .i64 a1, .int .i64 a2] w fun e w' => e = .returned (.int .i64 r) ∧ Drawn0 w w' := by
 have HV0 := Aside0.mk hv0
 have hvw0_0 : w.cell? v0 = some (.string a0_0) := hv0.at0
 have hvw0_1 : w.cell? ⟨v0.block, v0.off + 1, none⟩ = some (.int .i64 a0_1) := hv0.at_ 1 (by decide) rfl
 have hvw0_2 : w.cell? ⟨v0.block, v0.off + 2, none⟩ = some (.int .i64 a0_2) := hv0.at_ 2 (by decide) rfl
 have hvw0_3 : w.cell? ⟨v0.block, v0.off + 3, none⟩ = some (.int .i64 a0_3) := hv0.at_ 3 (by decide) rfl
 have hvw0_4 : w.cell? ⟨v0.block, v0.off + 4, none⟩ = some (.int .i64 a0_4) := hv0.at_ 4 (by decide) rfl
 have hvw0_5 : w.cell? ⟨v0.block, v0.off + 5, none⟩ = some (.int .i64 a0_5) := hv0.at_ 5 (by decide) rfl
 clear hv0
 have H : ((spec_l01Div.f (wrap64 ((wrap64 (a0_5 * a0_3)) * (wrap64 (a1 - a2)))) 100000).bind fun t358 => (some t358)) = some r := h
 clear h
 replace H := Option.bind_eq_some_iff.mp H
 obtain ⟨t358, A40, H⟩ := H
 replace H : (some t358) = some r := H
 have A4 := Aside0.mk A40
 clear A40
 obtain rfl := Option.some.inj H
 go_enter Try.func71, Try.ntmps71
 go_wp2_with (first | (go_at_call 70; (with_reducible refine (spec_l01Div.calls (wrap64 ((wrap64 (a0_5 * a0_3)) * (wrap64 (a1 - a2)))) 100000 t358 _ A4.out).mono ?_); rintro e w' ⟨rfl, ⟨nd, rfl⟩⟩; (try first | exact ⟨rfl, _, World.drewN_drewN _ _ _⟩ | exact ⟨rfl, _, Eq.trans (World.drewN_drewN _ _ _) (congrArg (World.drewN _) (Nat.add_assoc _ _ _))⟩)))
 repeat (go_quiet (first | (go_at_call 70; (with_reducible refine (spec_l01Div.calls (wrap64 ((wrap64 (a0_5 * a0_3)) * (wrap64 (a1 - a2)))) 100000 t358 _ A4.out).mono ?_); rintro e w' ⟨rfl, ⟨nd, rfl⟩⟩; (try first | exact ⟨rfl, _, World.drewN_drewN _ _ _⟩ | exact ⟨rfl, _, Eq.trans (World.drewN_drewN _ _ _) (congrArg (World.drewN _) (Nat.add_assoc _ _ _))⟩))); try go_wp2_with (first | (go_at_call 70; (with_reducible refine (spec_l01Div.calls (wrap64 ((wrap64 (a0_5 * a0_3)) * (wrap64 (a1 - a2)))) 100000 t358 _ A4.out).mono ?_); rintro e w' ⟨rfl, ⟨nd, rfl⟩⟩; (try first | exact ⟨rfl, _, World.drewN_drewN _ _ _⟩ | exact ⟨rfl, _, Eq.trans (World.drewN_drewN _ _ _) (congrArg (World.drewN _) (Nat.add_assoc _ _ _))⟩))))
 go_ret
 exact ⟨sZ, dZ⟩
def spec_l00Min.f (a0 : Int) (a1 : Int) : Option (Int) := if a0 < a1 then (some a0) else (some a1)
set_option maxHeartbeats 8000000 in
set_option maxRecDepth 100000 in
theorem spec_l00Min.calls (a0 : Int) (a1 : Int) (r : Int) (w : World) (h : spec_l00Min.f a0 a1 = some r) :
  Calls Try.prog 73 #[.int .i64 a0, .int .i64 a1] w fun e w' => e = .returned (.int .i64 r) ∧ Drawn0 w w' := by
 have H : (if a0 < a1 then (some a0) else (some a1)) = some r := h
 clear h
 by_cases c3 : a0 < a1
 ·rw [if_pos c3] at H
  have c3b0 : decide (a0 < a1) = true := decide_eq_true c3
  clear c3
  obtain rfl := Option.some.inj H
  go_enter Try.func73, Try.ntmps73
  go_wp2
  go_ret
  exact ⟨sZ, dZ⟩
 ·rw [if_neg c3] at H
  have c3b0 : decide (a0 < a1) = false := decide_eq_false c3
  clear c3
  obtain rfl := Option.some.inj H
  go_enter Try.func73, Try.ntmps73
  go_wp2
  go_ret
  exact ⟨sZ, dZ⟩
def spec_l03End.f (a0_0 : ByteArray) (a0_1 : Int) (a0_2 : Int) (a0_3 : Int) (a0_4 : Int) (a0_5 : Int) (a1 : Int) (a2 : Int) (a3 : Int) : Option (Int) := (spec_l03Loss.f a0_0 a0_1 a0_2 a0_3 a0_4 a0_5 a2 a3).bind fun t359 => ((spec_l03Abs.f a1).bind fun t360 => ((spec_l01Div.f (wrap64 (t359 * 100000)) (wrap64 (t360 * 4186))).bind fun t361 => (if a2 ≥ a3 then ((spec_l00Max.f a3 (wrap64 (a2 - t361))).bind fun t362 => (some t362)) else ((spec_l00Min.f a3 (wrap64 (a2 - t361))).bind fun t363 => (some t363)))))
set_option maxHeartbeats 8000000 in
set_option maxRecDepth 100000 in
theorem spec_l03End.calls (v0 : Addr) (a0_0 : ByteArray) (a0_1 : Int) (a0_2 : Int) (a0_3 : Int) (a0_4 : Int) (a0_5 : Int) (a1 : Int) (a2 : Int) (a3 : Int) (r : Int) (w : World) (hv0 : ViewAt w v0 [.string a0_0, .int .i64 a0_1, .int .i64 a0_2, .int .i64 a0_3, .int .i64 a0_4, .int .i64 a0_5]) (h : spec_l03End.f a0_0 a0_1 a0_2 a0_3 a0_4 a0_5 a1 a2 a3 = some r) :
  Calls Try.prog 47 #[.pointer (some v0), .int .i64 a1, .int .i64 a2, .int .i64 a3] w fun e w' => e = .returned (.int .i64 r) ∧ Drawn0 w w' := by
 have HV0 := Aside0.mk hv0
 have hvw0_0 : w.cell? v0 = some (.string a0_0) := hv0.at0
 have hvw0_1 : w.cell? ⟨v0.block, v0.off + 1, none⟩ = some (.int .i64 a0_1) := hv0.at_ 1 (by decide) rfl
 have hvw0_2 : w.cell? ⟨v0.block, v0.off + 2, none⟩ = some (.int .i64 a0_2) := hv0.at_ 2 (by decide) rfl
 have hvw0_3 : w.cell? ⟨v0.block, v0.off + 3, none⟩ = some (.int .i64 a0_3) := hv0.at_ 3 (by decide) rfl
 have hvw0_4 : w.cell? ⟨v0.block, v0.off + 4, none⟩ = some (.int .i64 a0_4) := hv0.at_ 4 (by decide) rfl
 have hvw0_5 : w.cell? ⟨v0.block, v0.off + 5, none⟩ = some (.int .i64 a0_5) := hv0.at_ 5 (by decide) rfl
 clear hv0
 have H : ((spec_l03Loss.f a0_0 a0_1 a0_2 a0_3 a0_4 a0_5 a2 a3).bind fun t359 => ((spec_l03Abs.f a1).bind fun t360 => ((spec_l01Div.f (wrap64 (t359 * 100000)) (wrap64 (t360 * 4186))).bind fun t361 => (if a2 ≥ a3 then ((spec_l00Max.f a3 (wrap64 (a2 - t361))).bind fun t362 => (some t362)) else ((spec_l00Min.f a3 (wrap64 (a2 - t361))).bind fun t363 => (some t363)))))) = some r := h
 clear h
 replace H := Option.bind_eq_some_iff.mp H
 obtain ⟨t359, A50, H⟩ := H
 replace H : ((spec_l03Abs.f a1).bind fun t360 => ((spec_l01Div.f (wrap64 (t359 * 100000)) (wrap64 (t360 * 4186))).bind fun t361 => (if a2 ≥ a3 then ((spec_l00Max.f a3 (wrap64 (a2 - t361))).bind fun t362 => (some t362)) else ((spec_l00Min.f a3 (wrap64 (a2 - t361))).bind fun t363 => (some t363))))) = some r := H
 have A5 := Aside0.mk A50
 clear A50
 replace H := Option.bind_eq_some_iff.mp H
 obtain ⟨t360, A60, H⟩ := H
 replace H : ((spec_l01Div.f (wrap64 (t359 * 100000)) (wrap64 (t360 * 4186))).bind fun t361 => (if a2 ≥ a3 then ((spec_l00Max.f a3 (wrap64 (a2 - t361))).bind fun t362 => (some t362)) else ((spec_l00Min.f a3 (wrap64 (a2 - t361))).bind fun t363 => (some t363)))) = some r := H
 have A6 := Aside0.mk A60
 clear A60
 replace H := Option.bind_eq_some_iff.mp H
 obtain ⟨t361, A70, H⟩ := H
 replace H : (if a2 ≥ a3 then ((spec_l00Max.f a3 (wrap64 (a2 - t361))).bind fun t362 => (some t362)) else ((spec_l00Min.f a3 (wrap64 (a2 - t361))).bind fun t363 => (some t363))) = some r := H
 have A7 := Aside0.mk A70
 clear A70
 by_cases c8 : a2 ≥ a3
 ·rw [if_pos c8] at H
  have c8b0 : decide (a3 ≤ a2) = true := decide_eq_true c8
  clear c8
  replace H := Option.bind_eq_some_iff.mp H
  obtain ⟨t362, A90, H⟩ := H
  replace H : (some t362) = some r := H
  have A9 := Aside0.mk A90
  clear A90
  obtain rfl := Option.some.inj H
  go_enter Try.func47, Try.ntmps47
  go_wp2_with (first | ((with_reducible refine gate_callee (f := 71) rfl ?_); refine goesL_ (some 14) rfl rfl Try.func71 (by kernel_rfl) rfl #[.pointer (some v0), .int .i64 a2, .int .i64 a3] rfl gZ ?_; (with_reducible refine (spec_l03Loss.calls _ a0_0 a0_1 a0_2 a0_3 a0_4 a0_5 a2 a3 t359 _ ?side1 A5.out).mono ?_); (case side1 => exact HV0.out); rintro e w' ⟨rfl, ⟨nd, rfl⟩⟩; refine ⟨_, rfl, ?_⟩) | ((with_reducible refine gate_callee (f := 69) rfl ?_); refine goesL_ (some 17) rfl rfl Try.func69 (by kernel_rfl) rfl #[.int .i64 a1] rfl gZ ?_; (with_reducible refine (spec_l03Abs.calls a1 t360 _ A6.out).mono ?_); rintro e w' ⟨rfl, ⟨nd, rfl⟩⟩; refine ⟨_, rfl, ?_⟩) | ((with_reducible refine gate_callee (f := 70) rfl ?_); refine goesL_ (some 19) rfl rfl Try.func70 (by kernel_rfl) rfl #[.int .i64 (wrap64 (t359 * 100000)), .int .i64 (wrap64 (t360 * 4186))] rfl gZ ?_; (with_reducible refine (spec_l01Div.calls (wrap64 (t359 * 100000)) (wrap64 (t360 * 4186)) t361 _ A7.out).mono ?_); rintro e w' ⟨rfl, ⟨nd, rfl⟩⟩; refine ⟨_, rfl, ?_⟩) | ((with_reducible refine gate_callee (f := 72) rfl ?_); refine goesL_ (some 28) rfl rfl Try.func72 (by kernel_rfl) rfl #[.int .i64 a3, .int .i64 (wrap64 (a2 - t361))] rfl gZ ?_; (with_reducible refine (spec_l00Max.calls a3 (wrap64 (a2 - t361)) t362 _ A9.out).mono ?_); rintro e w' ⟨rfl, ⟨nd, rfl⟩⟩; refine ⟨_, rfl, ?_⟩))
  go_ret
  exact ⟨sZ, dZ⟩
 ·rw [if_neg c8] at H
  have c8b0 : decide (a3 ≤ a2) = false := decide_eq_false c8
  clear c8
  replace H := Option.bind_eq_some_iff.mp H
  obtain ⟨t363, A100, H⟩ := H
  replace H : (some t363) = some r := H
  have A10 := Aside0.mk A100
  clear A100
  obtain rfl := Option.some.inj H
  go_enter Try.func47, Try.ntmps47
  go_wp2_with (first | ((with_reducible refine gate_callee (f := 71) rfl ?_); refine goesL_ (some 14) rfl rfl Try.func71 (by kernel_rfl) rfl #[.pointer (some v0), .int .i64 a2, .int .i64 a3] rfl gZ ?_; (with_reducible refine (spec_l03Loss.calls _ a0_0 a0_1 a0_2 a0_3 a0_4 a0_5 a2 a3 t359 _ ?side1 A5.out).mono ?_); (case side1 => exact HV0.out); rintro e w' ⟨rfl, ⟨nd, rfl⟩⟩; refine ⟨_, rfl, ?_⟩) | ((with_reducible refine gate_callee (f := 69) rfl ?_); refine goesL_ (some 17) rfl rfl Try.func69 (by kernel_rfl) rfl #[.int .i64 a1] rfl gZ ?_; (with_reducible refine (spec_l03Abs.calls a1 t360 _ A6.out).mono ?_); rintro e w' ⟨rfl, ⟨nd, rfl⟩⟩; refine ⟨_, rfl, ?_⟩) | ((with_reducible refine gate_callee (f := 70) rfl ?_); refine goesL_ (some 19) rfl rfl Try.func70 (by kernel_rfl) rfl #[.int .i64 (wrap64 (t359 * 100000)), .int .i64 (wrap64 (t360 * 4186))] rfl gZ ?_; (with_reducible refine (spec_l01Div.calls (wrap64 (t359 * 100000)) (wrap64 (t360 * 4186)) t361 _ A7.out).mono ?_); rintro e w' ⟨rfl, ⟨nd, rfl⟩⟩; refine ⟨_, rfl, ?_⟩) | ((with_reducible refine gate_callee (f := 73) rfl ?_); refine goesL_ (some 31) rfl rfl Try.func73 (by kernel_rfl) rfl #[.int .i64 a3, .int .i64 (wrap64 (a2 - t361))] rfl gZ ?_; (with_reducible refine (spec_l00Min.calls a3 (wrap64 (a2 - t361)) t363 _ A10.out).mono ?_); rintro e w' ⟨rfl, ⟨nd, rfl⟩⟩; refine ⟨_, rfl, ?_⟩))
  go_ret
  exact ⟨sZ, dZ⟩
end Go.Proofs.Ytmmlhbfkchbpaaa.XX
end

section
namespace Go.Proofs.Ytmmlhbfkchbpaaa.XX
open Go.RowKit Go.Proofs.YtmmlhbfkchbpaaaW.PrintWords Go.Proofs.YtmmlhbfkchbpaaaW.PrintLast Go.Proofs.YtmmlhbfkchbpaaaW.PrintMore
attribute [local go_sem] run_eql_slice_nil binOp_string_gtr' binOp_string_leq' binOp_string_geq' max2_int min2_int max_two min_two max_three min_three max_four min_four   -- for this text's walks alone
set_option linter.unusedVariables false
set_option linter.unusedSimpArgs false
def spec_EndTemperature.j0 : Nat → Int → Int → Int → Bool → ByteArray → Int → Int → Int → Int → Int → Option (Int × Int)
 | 0, _, _, _, _, _, _, _, _, _, _ => none
 | k + 1, x1, x2, x3, x23, x365000, x365001, x365002, x365003, x365004, x365005 => if x23 = true then (some (0, 2)) else (if x1 = 0 then (some (x3, 0)) else ((spec_l03End.f x365000 x365001 x365002 x365003 x365004 x365005 x1 x2 x3).bind fun t368 => (some (t368, 0))))
def spec_EndTemperature.f (k : Nat) (a0_0 : ByteArray) (a0_1 : Int) (a0_2 : Int) (a0_3 : Int) (a0_4 : Int) (a0_5 : Int) (a1 : Int) (a2 : Int) (a3 : Int) : Option (Int × Int) := (spec_l03Ask.f k a0_0 a0_1 a0_2 a0_3 a0_4 a0_5 a1).bind fun t365 => (if t365 = 0 then ((spec_l03Degrees.f a2).bind fun t366 => (if t366 = true then ((spec_l03Degrees.f a3).bind fun t367 => (spec_EndTemperature.j0 k a1 a2 a3 (!t367) a0_0 a0_1 a0_2 a0_3 a0_4 a0_5)) else (spec_EndTemperature.j0 k a1 a2 a3 true a0_0 a0_1 a0_2 a0_3 a0_4 a0_5))) else (some (0, t365)))
set_option maxHeartbeats 8000000 in
set_option maxRecDepth 100000 in
theorem spec_EndTemperature.calls (k : Nat) (a0_0 : ByteArray) (a0_1 : Int) (a0_2 : Int) (a0_3 : Int) (a0_4 : Int) (a0_5 : Int) (a1 : Int) (a2 : Int) (a3 : Int) (r1 : Int) (r2 : Int) (w : World) (h : spec_EndTemperature.f k a0_0 a0_1 a0_2 a0_3 a0_4 a0_5 a1 a2 a3 = some (r1, r2)) :
  Calls Try.prog 16 #[.agg #[.string a0_0, .int .i64 a0_1, .int .i64 a0_2, .int .i64 a0_3, .int .i64 a0_4, .int .i64 a0_5], .int .i64 a1, .int .i64 a2, .int .i64 a3] w fun e w' => e = .returned (.tuple #[.int .i64 r1, .int .i64 r2]) ∧ Below w.heap.size w w' := by
 have hu37 := Try.underlying37
 have HB := Aside0.mk (Below.refl w.heap.size w)
 have H : ((spec_l03Ask.f k a0_0 a0_1 a0_2 a0_3 a0_4 a0_5 a1).bind fun t365 => (if t365 = 0 then ((spec_l03Degrees.f a2).bind fun t366 => (if t366 = true then ((spec_l03Degrees.f a3).bind fun t367 => (spec_EndTemperature.j0 k a1 a2 a3 (!t367) a0_0 a0_1 a0_2 a0_3 a0_4 a0_5)) else (spec_EndTemperature.j0 k a1 a2 a3 true a0_0 a0_1 a0_2 a0_3 a0_4 a0_5))) else (some (0, t365)))) = some (r1, r2) := h
 clear h
 replace H := Option.bind_eq_some_iff.mp H
 obtain ⟨t365, A50, H⟩ := H
 replace H : (if t365 = 0 then ((spec_l03Degrees.f a2).bind fun t366 => (if t366 = true then ((spec_l03Degrees.f a3).bind fun t367 => (spec_EndTemperature.j0 k a1 a2 a3 (!t367) a0_0 a0_1 a0_2 a0_3 a0_4 a0_5)) else (spec_EndTemperature.j0 k a1 a2 a3 true a0_0 a0_1 a0_2 a0_3 a0_4 a0_5))) else (some (0, t365))) = some (r1, r2) := H
 have A5 := Aside0.mk A50
 clear A50
 by_cases c6 : t365 = 0
 ·rw [if_pos c6] at H
  have c6b0 : (t365 == 0) = true := beq_iff_eq.mpr c6
  have c6b1 : (t365 != 0) = false := bne_eq_false_iff_eq.mpr c6
  clear c6
  have HC7 := Aside0.mk H
  clear H
  go_enter Try.func16, Try.ntmps16
  go_upto_region 4 with (first | ((with_reducible refine gate_dst (N := 4) rfl ?_); refine boxZ 4 #[.string a0_0, .int .i64 a0_1, .int .i64 a0_2, .int .i64 a0_3, .int .i64 a0_4, .int .i64 a0_5] 37 rfl rfl ?_; intro gb364 hg w8 hbox hb; have n0_ := Aside0.mk (below_step bZ hb); have n1_ := Aside0.mk (hbox); have n2_ := Aside0.mk ((by rw [hg]; exact bsZ : w.heap.size ≤ gb364)); have n3_ := Aside0.mk ((by rw [hg]; exact bsZ : w.heap.size ≤ gb364)); clear HB; have HB := n0_; have BK364 := n1_; have GW364 := n2_; have GE364 := n3_; clear n0_ n1_ n2_ n3_; clear hb hbox hg) | ((with_reducible refine gate_callee (f := 44) rfl ?_); refine goesL_ (some 12) rfl rfl Try.func44 (by kernel_rfl) rfl #[.pointer (some ⟨gb364, 0, none⟩), .int .i64 a1] rfl gZ ?_; (with_reducible refine (spec_l03Ask.calls k _ a0_0 a0_1 a0_2 a0_3 a0_4 a0_5 a1 t365 _ ?side1 A5.out).mono ?_); (case side1 => exact ViewAt.of_blk (kZ BK364.out)); rintro e w' ⟨rfl, ⟨nd, rfl⟩⟩; refine ⟨_, rfl, ?_⟩))
  (try simp only [Act.put, List.setIfInBounds_toArray, List.set_cons_zero, List.set_cons_succ])
  go_cut [23] (fun v23 wc => ∃ (kq : Nat) (x23_6 : Bool), v23 = .bool x23_6 ∧ Aside0 (spec_EndTemperature.j0 kq a1 a2 a3 x23_6 a0_0 a0_1 a0_2 a0_3 a0_4 a0_5 = some (r1, r2)) ∧ Aside0 (kq ≤ k) ∧ Aside0 (wc.heap[gb364]? = some (.cells #[.string a0_0, .int .i64 a0_1, .int .i64 a0_2, .int .i64 a0_3, .int .i64 a0_4, .int .i64 a0_5] 37 (0, 0))) ∧ Aside0 (Below w.heap.size w wc))
  case first =>
   have H := HC7.out
   clear HC7
   replace H := Option.bind_eq_some_iff.mp H
   obtain ⟨t366, A90, H⟩ := H
   replace H : (if t366 = true then ((spec_l03Degrees.f a3).bind fun t367 => (spec_EndTemperature.j0 k a1 a2 a3 (!t367) a0_0 a0_1 a0_2 a0_3 a0_4 a0_5)) else (spec_EndTemperature.j0 k a1 a2 a3 true a0_0 a0_1 a0_2 a0_3 a0_4 a0_5)) = some (r1, r2) := H
   have A9 := Aside0.mk A90
   clear A90
   by_cases c10 : t366 = true
   ·subst c10
    have H1 : ((spec_l03Degrees.f a3).bind fun t367 => (spec_EndTemperature.j0 k a1 a2 a3 (!t367) a0_0 a0_1 a0_2 a0_3 a0_4 a0_5)) = some (r1, r2) := by rw [if_pos rfl] at H; exact H
    clear H
    have H := H1
    clear H1
    replace H := Option.bind_eq_some_iff.mp H
    obtain ⟨t367, A110, H⟩ := H
    replace H : (spec_EndTemperature.j0 k a1 a2 a3 (!t367) a0_0 a0_1 a0_2 a0_3 a0_4 a0_5) = some (r1, r2) := H
    have A11 := Aside0.mk A110
    clear A110
    have H' := Aside0.mk H
    clear H
    go_wp2_with (first | ((with_reducible refine gate_callee (f := 46) rfl ?_); refine goesL_ (some 17) rfl rfl Try.func46 (by kernel_rfl) rfl #[.int .i64 a2] rfl gZ ?_; (with_reducible refine (spec_l03Degrees.calls a2 true _ A9.out).mono ?_); rintro e w' ⟨rfl, ⟨nd, rfl⟩⟩; refine ⟨_, rfl, ?_⟩) | (go_at_call 46; (with_reducible refine (spec_l03Degrees.calls a3 t367 _ A11.out).mono ?_); rintro e w' ⟨rfl, ⟨nd, rfl⟩⟩))
    go_meet
    case rel => exact ⟨_, (!t367), sZ, H', ⟨by first | omega | exact Nat.le_refl _⟩, ⟨kZ BK364.out⟩, ⟨bZ⟩⟩
   ·replace c10 := Bool.eq_false_iff.mpr c10
    subst c10
    have H1 : (spec_EndTemperature.j0 k a1 a2 a3 true a0_0 a0_1 a0_2 a0_3 a0_4 a0_5) = some (r1, r2) := by rw [if_neg (show ¬ (false = true) by decide)] at H; exact H
    clear H
    have H := H1
    clear H1
    have H' := Aside0.mk H
    clear H
    go_wp2_with (first | ((with_reducible refine gate_callee (f := 46) rfl ?_); refine goesL_ (some 17) rfl rfl Try.func46 (by kernel_rfl) rfl #[.int .i64 a2] rfl gZ ?_; (with_reducible refine (spec_l03Degrees.calls a2 false _ A9.out).mono ?_); rintro e w' ⟨rfl, ⟨nd, rfl⟩⟩; refine ⟨_, rfl, ?_⟩))
    go_meet
    case rel => exact ⟨_, (true), sZ, H', ⟨by first | omega | exact Nat.le_refl _⟩, ⟨kZ BK364.out⟩, ⟨bZ⟩⟩
  case rest =>
   clear HC7; (try clear c1); (try clear p2); (try clear c4); (try clear c6); (try clear c6b0); (try clear c6b1); (try clear c10)
   obtain ⟨kq, x23_6, rfl, HA, HJ6, BK364, HB⟩ := hcut
   cases kq with
   | zero => exact absurd HA.out (by simp [spec_EndTemperature.j0])
   | succ kj6 =>
    have H := HA.out
    clear HA
    simp only [spec_EndTemperature.j0] at H
    by_cases c12 : x23_6 = true
    ·subst c12
     have H1 : (some (0, 2)) = some (r1, r2) := by rw [if_pos rfl] at H; exact H
     clear H
     have H := H1
     clear H1
     simp only [Option.some.injEq, Prod.mk.injEq] at H
     obtain ⟨rfl, rfl⟩ := H
     go_wp2
     go_ret2
     exact ⟨eZ, bZ⟩
    ·replace c12 := Bool.eq_false_iff.mpr c12
     subst c12
     have H1 : (if a1 = 0 then (some (a3, 0)) else ((spec_l03End.f a0_0 a0_1 a0_2 a0_3 a0_4 a0_5 a1 a2 a3).bind fun t368 => (some (t368, 0)))) = some (r1, r2) := by rw [if_neg (show ¬ (false = true) by decide)] at H; exact H
     clear H
     have H := H1
     clear H1
     by_cases c13 : a1 = 0
     ·rw [if_pos c13] at H
      have c13b0 : (a1 == 0) = true := beq_iff_eq.mpr c13
      have c13b1 : (a1 != 0) = false := bne_eq_false_iff_eq.mpr c13
      clear c13
      simp only [Option.some.injEq, Prod.mk.injEq] at H
      obtain ⟨rfl, rfl⟩ := H
      go_wp2
      go_ret2
      exact ⟨eZ, bZ⟩
     ·rw [if_neg c13] at H
      have c13b0 : (a1 == 0) = false := beq_eq_false_iff_ne.mpr c13
      have c13b1 : (a1 != 0) = true := bne_iff_ne.mpr c13
      replace H := Option.bind_eq_some_iff.mp H
      obtain ⟨t368, A140, H⟩ := H
      replace H : (some (t368, 0)) = some (r1, r2) := H
      have A14 := Aside0.mk A140
      clear A140
      simp only [Option.some.injEq, Prod.mk.injEq] at H
      obtain ⟨rfl, rfl⟩ := H
      go_wp2_with (first | ((with_reducible refine gate_callee (f := 47) rfl ?_); refine goesL_ (some 30) rfl rfl Try.func47 (by kernel_rfl) rfl #[.pointer (some ⟨gb364, 0, none⟩), .int .i64 a1, .int .i64 a2, .int .i64 a3] rfl gZ ?_; (with_reducible refine (spec_l03End.calls _ a0_0 a0_1 a0_2 a0_3 a0_4 a0_5 a1 a2 a3 t368 _ ?side1 A14.out).mono ?_); (case side1 => exact ViewAt.of_blk (kZ BK364.out)); rintro e w' ⟨rfl, ⟨nd, rfl⟩⟩; refine ⟨_, rfl, ?_⟩))
      go_ret2
      exact ⟨eZ, bZ⟩
 ·rw [if_neg c6] at H
  have c6b0 : (t365 == 0) = false := beq_eq_false_iff_ne.mpr c6
  have c6b1 : (t365 != 0) = true := bne_iff_ne.mpr c6
  simp only [Option.some.injEq, Prod.mk.injEq] at H
  obtain ⟨rfl, rfl⟩ := H
  go_enter Try.func16, Try.ntmps16
  go_wp2_with (first | ((with_reducible refine gate_dst (N := 4) rfl ?_); refine boxZ 4 #[.string a0_0, .int .i64 a0_1, .int .i64 a0_2, .int .i64 a0_3, .int .i64 a0_4, .int .i64 a0_5] 37 rfl rfl ?_; intro gb364 hg w15 hbox hb; have n0_ := Aside0.mk (below_step bZ hb); have n1_ := Aside0.mk (hbox); have n2_ := Aside0.mk ((by rw [hg]; exact bsZ : w.heap.size ≤ gb364)); have n3_ := Aside0.mk ((by rw [hg]; exact bsZ : w.heap.size ≤ gb364)); clear HB; have HB := n0_; have BK364 := n1_; have GW364 := n2_; have GE364 := n3_; clear n0_ n1_ n2_ n3_; clear hb hbox hg) | ((with_reducible refine gate_callee (f := 44) rfl ?_); refine goesL_ (some 12) rfl rfl Try.func44 (by kernel_rfl) rfl #[.pointer (some ⟨gb364, 0, none⟩), .int .i64 a1] rfl gZ ?_; (with_reducible refine (spec_l03Ask.calls k _ a0_0 a0_1 a0_2 a0_3 a0_4 a0_5 a1 t365 _ ?side1 A5.out).mono ?_); (case side1 => exact ViewAt.of_blk (kZ BK364.out)); rintro e w' ⟨rfl, ⟨nd, rfl⟩⟩; refine ⟨_, rfl, ?_⟩))
  go_ret2
  exact ⟨eZ, bZ⟩
end Go.Proofs.Ytmmlhbfkchbpaaa.XX
end

section
namespace Go.Proofs.YtmmlhbfkchbpaaaW.PrintWords
open Go.RowKit Go.Proofs.YtmmlhbfkchbpaaaW.PrintLast Go.Proofs.YtmmlhbfkchbpaaaW.PrintMore
set_option linter.unusedVariables false
namespace BoxS
theorem range {w : World} {g t : Nat} {cs : Array Value} (hb : w.heap[g]? = some (.cells cs t (0, 0))) : w.rangeAt g 0 cs.toList := by
  intro j v hv
  rw [Nat.zero_add, blk_cell hb, ← hv, Array.getElem?_toList]
section
variable {P : Program} {ops : Array Oper} {rest : List Oper} {o : Oper} {a : Act} {Q : Exit → Act → World → Prop} {W : World}
theorem ld (t : TypeId) (x : Operand) (g : Nat) {cs : Array Value} {d : TypeDesc} (hgd : o.guard = none) (ho : o.op = .load t x) (hx : a.eval x = .pointer (some ⟨g, 0, none⟩)) (hb : W.heap[g]? = some (.cells cs t (0, 0)))
    (hu : P.underlying t = some d) (hd : d.isRow = true) (hi : (P.info? t).map (·.size) = some cs.size) (h : wpList P ops Q rest (a.put o.dst (.agg cs)) W) : wpList P ops Q (o :: rest) a W :=
  wpList_load_mid hgd t x ho g 0 hx cs.toList d (range hb) hu hd (by simpa using hi) (by simpa using h)
theorem run {w : World} {g t : Nat} {cs : Array Value} {d : TypeDesc} (hb : w.heap[g]? = some (.cells cs t (0, 0))) (hu : P.underlying t = some d) (hd : d.isRow = true) (hi : (P.info? t).map (·.size) = some cs.size) :
    (Instr.loadAt t (.pointer (some ⟨g, 0, none⟩))).run P w = .ok (.agg cs) w := by
  have := run_loadAt_mid (P := P) w g 0 t cs.toList d (range hb) hu hd (by simpa using hi)
  simpa using this
theorem setAll (g t : Nat) : ∀ (vs pre suf : List Value) (w : World), w.heap[g]? = some (.cells (pre ++ suf).toArray t (0, 0)) → suf.length = vs.length → (w.setCells g pre.length vs).heap[g]? = some (.cells (pre ++ vs).toArray t (0, 0))
  | [], pre, suf, w, h, hl => by
    obtain rfl := List.length_eq_zero_iff.mp hl
    exact h
  | v :: vs, pre, [], w, h, hl => by simp at hl
  | v :: vs, pre, s :: suf, w, h, hl => by
    have h1 := blk_put h pre.length v (cs' := ((pre ++ [v]) ++ suf).toArray) (by simp)
    have := setAll g t vs (pre ++ [v]) suf _ h1 (by simpa using hl)
    simpa [World.setCells] using this
theorem setBelow (B g : Nat) (hg : B ≤ g) {w0 : World} : ∀ (vs : List Value) (i : Nat) (w : World), Below B w0 w → Below B w0 (w.setCells g i vs)
  | [], _, _, h => h
  | v :: vs, i, w, h => setBelow B g hg vs (i + 1) _ (h.setCell hg _)
theorem st (t : TypeId) (x y : Operand) (g : Nat) {cs zs : Array Value} (hgd : o.guard = none) (hdst : o.dst = none) (ho : o.op = .store t x y) (hx : a.eval x = .pointer (some ⟨g, 0, none⟩)) (hy : a.eval y = .agg cs)
    (hb : W.heap[g]? = some (.cells zs t (0, 0))) (hz : zs.size = cs.size) (hi : (P.info? t).map (·.size) = some cs.size) (h1 : cs.all (·.oneCell') = true)
    (h : ∀ w1, w1.heap[g]? = some (.cells cs t (0, 0)) → Below g W w1 → wpList P ops Q rest a w1) : wpList P ops Q (o :: rest) a W := by
  refine wpList_store_mid hgd t x y ho g 0 cs hx hy (fun j hj => ⟨by rw [Nat.zero_add, blk_cell hb]; simp [hz, hj], by rw [Nat.zero_add]; exact blk_frozen hb j⟩) hi h1 ?_
  rw [hdst]
  refine h _ ?_ (setBelow g g (Nat.le_refl _) _ _ _ (Below.refl _ _))
  have := setAll g t cs.toList [] zs.toList W (by simpa using hb) (by simpa using hz)
  simpa using this
end
end BoxS
end Go.Proofs.YtmmlhbfkchbpaaaW.PrintWords
end

section
namespace Go.Proofs.Ytmmlhbfkchbpaaa.XX
open Go.RowKit Go.Proofs.YtmmlhbfkchbpaaaW.PrintWords Go.Proofs.YtmmlhbfkchbpaaaW.PrintLast Go.Proofs.YtmmlhbfkchbpaaaW.PrintMore
attribute [local go_sem] run_eql_slice_nil binOp_string_gtr' binOp_string_leq' binOp_string_geq' max2_int min2_int max_two min_two max_three min_three max_four min_four   -- for this text's walks alone
set_option linter.unusedVariables false
set_option linter.unusedSimpArgs false
def laws_FnMixing.g3 (k : Nat) (a time x : Int) (oh : List (S49) × Int) (dl : Int) (p1 : ByteArray) (p2 p3 p4 p5 p6 : Int) : Option Bool :=
 if oh.2 = 0 then (if dl > 900000 then some true else (impl_WaveAt.f k oh.1 (wrap64 (time + dl))).bind fun ei => (spec_EndTemperature.f k p1 p2 p3 p4 p5 p6 a x 800).bind fun wj => (spec_ValidWave.f k oh.1).bind fun b => if b = true then (if ei.2 = 0 then (if wj.2 = 0 then (if ei.1 = wj.1 then some true else none) else none) else none) else none) else (if oh.2 = 6 then (if dl > 900000 then some true else none) else none)
def laws_FnMixing.g2 (k : Nat) (l0 l1 : List Int) (a : Int) (u v m : List (S49)) : Option Bool :=
 (laws_r8Wide.f l1 4 6000).bind fun time => (spec_WaveAt.f k u time).bind fun xe => (spec_WaveAt.f k v time).bind fun yf => (impl_WaveAt.f k m time).bind fun zg =>
 if xe.2 = 0 then (if yf.2 = 0 then (if zg.2 = 0 then (if zg.1 < mn xe.1 yf.1 then none else (if zg.1 > mx xe.1 yf.1 then none else
 ((spec_R8Pipe.f l0).bind fun p => (impl_ThroughPipe.f k p.1 p.2.1 p.2.2.1 p.2.2.2.1 p.2.2.2.2.1 p.2.2.2.2.2 a u 800 1000).bind fun oh => (spec_DelayOf.f k p.1 p.2.1 p.2.2.1 p.2.2.2.1 p.2.2.2.2.1 p.2.2.2.2.2 a).bind fun dl => laws_FnMixing.g3 k a time xe.1 oh dl.1 p.1 p.2.1 p.2.2.1 p.2.2.2.1 p.2.2.2.2.1 p.2.2.2.2.2))) else none) else none) else none
def laws_FnMixing.f (k : Nat) (l0 l1 : List Int) : Option Bool :=
 (laws_r8Long.f l0 l1).bind fun b => if b = true then some true else (spec_R8Wave.f k l0).bind fun u => (spec_R8Wave.f k l1).bind fun v => (laws_r8Wide.f l1 0 5000).bind fun s => (laws_r8Wide.f l1 2 5000).bind fun t =>
 (impl_MixWaves.f k [u, v] [wrap64 (1 + s), wrap64 (1 + t)]).bind fun mc => (impl_MixWaves.f k [u] [wrap64 (1 + s)]).bind fun ad => (spec_TrimWave.f k u).bind fun tr =>
 if mc.2 = 0 then ((spec_ValidWave.f k mc.1).bind fun b1 => if b1 = true then (if ad.2 = 0 then ((spec_SameWave.f k ad.1 tr.1).bind fun b2 => if b2 = true then laws_FnMixing.g2 k l0 l1 (wrap64 (1 + s)) u v mc.1 else none) else none) else none) else none
set_option maxHeartbeats 4000000 in
set_option maxRecDepth 100000 in
theorem laws_FnMixing.calls (k : Nat) (A0 : Option Addr) (c0 : Nat) (l0 : List Int) (A1 : Option Addr) (c1 : Nat) (l1 : List Int) (r : Bool) (w : World) (hr0 : Kd.C (Kd.int .u8) w A0 l0.length l0) (hc0 : l0.length ≤ c0) (hr1 : Kd.C (Kd.int .u8) w A1 l1.length l1) (hc1 : l1.length ≤ c1) (h : laws_FnMixing.f k l0 l1 = some r) :
  Calls Try.prog 3 #[.slice A0 l0.length c0, .slice A1 l1.length c1] w fun e w' => e = .returned (.bool r) ∧ Below w.heap.size w w' := by
 have HIP := Aside0.mk (show (Try.prog.info? 37).map (·.size) = some 6 by kernel_rfl)
 have hup := Try.underlying37
 have HR0 := Aside0.mk hr0
 have HC0 := Aside0.mk hc0
 have HR1 := Aside0.mk hr1
 have HC1 := Aside0.mk hc1
 clear hr0 hc0 hr1 hc1
 have HB := Aside0.mk (Below.refl w.heap.size w)
 unfold laws_FnMixing.f at h
 have H := Aside0.mk h
 clear h
 go_enter Try.func3, Try.ntmps3
 obtain ⟨b, ha_, h⟩ := Option.bind_eq_some_iff.mp H.out
 have HA := Aside0.mk ha_
 clear H
 have H := Aside0.mk h
 clear h ha_
 go_wp2_with fail
 refine (laws_r8Long.calls _ _ l0 _ _ l1 b _ (Kd.C_below HR0.out bZ) HC0.out (Kd.C_below HR1.out bZ) HC1.out HA.out).mono ?_
 rintro e w_ ⟨rfl, ⟨nd_, rfl⟩⟩
 clear HA
 cases b with
 | true =>
  obtain rfl := Option.some.inj ((if_pos rfl).symm.trans H.out)
  clear H
  go_wp2
  go_ret
  exact ⟨eZ, bZ⟩
 | false =>
 have h := (if_neg (by decide)).symm.trans H.out
 clear H
 have H := Aside0.mk h
 clear h
 obtain ⟨u, ha_, h⟩ := Option.bind_eq_some_iff.mp H.out
 have HA := Aside0.mk ha_
 clear H
 have H := Aside0.mk h
 clear h ha_
 go_wp2_with fail
 refine (spec_R8Wave.calls k _ _ l0 u _ (Kd.C_below HR0.out bZ) HC0.out HA.out).mono ?_
 rintro e w2 ⟨v_, rfl, ho, hb⟩
 have hx_ := Aside0.mk (Kd.R_lower ho bsZ)
 have nb_ := Aside0.mk (below_step bZ hb)
 clear HB 
 have HB := nb_
 clear nb_ 
 have HU := hx_
 obtain ⟨AHU, cHU, rfl⟩ := Kd.R_slice HU.out
 clear hb ho hx_ HA
 obtain ⟨v, ha_, h⟩ := Option.bind_eq_some_iff.mp H.out
 have HA := Aside0.mk ha_
 clear H
 have H := Aside0.mk h
 clear h ha_
 go_wp2_with fail
 refine (spec_R8Wave.calls k _ _ l1 v _ (Kd.C_below HR1.out bZ) HC1.out HA.out).mono ?_
 rintro e w2 ⟨v_, rfl, ho, hb⟩
 have hx_ := Aside0.mk (Kd.R_lower ho bsZ)
 have n0_ := Aside0.mk (Kd.R_below (Kd.rZ HU.out) hb)
 have nb_ := Aside0.mk (below_step bZ hb)
 clear HB HU
 have HU := n0_
 have HB := nb_
 clear nb_ n0_
 have HV := hx_
 obtain ⟨AHV, cHV, rfl⟩ := Kd.R_slice HV.out
 clear hb ho hx_ HA
 obtain ⟨s, ha_, h⟩ := Option.bind_eq_some_iff.mp H.out
 have HA := Aside0.mk ha_
 clear H
 have H := Aside0.mk h
 clear h ha_
 go_wp2_with fail
 refine (laws_r8Wide.calls _ _ l1 0 5000 s _ (Kd.C_below HR1.out bZ) HC1.out HA.out).mono ?_
 rintro e w_ ⟨rfl, ⟨nd_, rfl⟩⟩
 clear HA
 obtain ⟨t, ha_, h⟩ := Option.bind_eq_some_iff.mp H.out
 have HA := Aside0.mk ha_
 clear H
 have H := Aside0.mk h
 clear h ha_
 go_wp2_with fail
 refine (laws_r8Wide.calls _ _ l1 2 5000 t _ (Kd.C_below HR1.out bZ) HC1.out HA.out).mono ?_
 rintro e w_ ⟨rfl, ⟨nd_, rfl⟩⟩
 clear HA
 obtain ⟨⟨m, mc⟩, ha_, h⟩ := Option.bind_eq_some_iff.mp H.out
 have HA := Aside0.mk ha_
 clear H
 have H := Aside0.mk h
 clear h ha_
 go_wp2_with (first | ((with_reducible refine gate_dst (N := 47) rfl ?_); refine Kd.R_lit (w0 := w) (Kd.slice 49 k49) w.heap.size 24 ?hg (N := 47) ?hd (xs := [u, v]) (inner := [.slice AHU u.length cHU, .slice AHV v.length cHV]) (ok := fun _ => True) (okp := fun _ => True) ?hr ?hp (fun _ hk => hk) trivial bZ bsZ (by simp) ?_; (case hd => rfl); (case hg => rfl); (case hr => first | (go_simp; done) | (go_simp; rfl)); (case hp => exact (Reps.one (Kd.M_row (Kd.rZ HU.out)) (Reps.one (Kd.M_row (Kd.rZ HV.out)) (Reps.none _ _)))); intro v1 w2 ho hb hg_ hnew_; clear hnew_; have n0_ := Aside0.mk (Kd.R_grown (Kd.rZ HU.out) hg_ (fun _ _ => nofun)); have n1_ := Aside0.mk (Kd.R_grown (Kd.rZ HV.out) hg_ (fun _ _ => nofun)); have nb_ := Aside0.mk hb; clear HB HU HV; have HU := n0_; have HV := n1_; have HB := nb_; clear nb_ n0_ n1_; have HLa := Aside0.mk ho; obtain ⟨AHLa, cHLa, rfl⟩ := Kd.R_slice HLa.out; clear hb hg_ ho) | ((with_reducible refine gate_dst (N := 50) rfl ?_); refine Kd.R_lit (w0 := w) (Kd.int .i64) w.heap.size 2 ?hg (N := 50) ?hd (xs := ([wrap64 (1 + s), wrap64 (1 + t)] : List Int)) (inner := [.int .i64 (wrap64 (1 + s)), .int .i64 (wrap64 (1 + t))]) (ok := fun _ => True) (okp := fun _ => True) ?hr ?hp (fun _ hk => hk) trivial bZ bsZ (by simp) ?_; (case hd => rfl); (case hg => rfl); (case hr => first | (go_simp; done) | (go_simp; rfl)); (case hp => exact (Reps.one (show Kd.M (Kd.int .i64) _ _ _ (wrap64 (1 + s)) [.int .i64 (wrap64 (1 + s))] from rfl) (Reps.one (show Kd.M (Kd.int .i64) _ _ _ (wrap64 (1 + t)) [.int .i64 (wrap64 (1 + t))] from rfl) (Reps.none _ _)))); intro v1 w2 ho hb hg_ hnew_; clear hnew_; have n0_ := Aside0.mk (Kd.R_grown (Kd.rZ HU.out) hg_ (fun _ _ => nofun)); have n1_ := Aside0.mk (Kd.R_grown (Kd.rZ HV.out) hg_ (fun _ _ => nofun)); have n2_ := Aside0.mk (Kd.R_grown (Kd.rZ HLa.out) hg_ (fun _ _ => nofun)); have nb_ := Aside0.mk hb; clear HB HU HV HLa; have HU := n0_; have HV := n1_; have HLa := n2_; have HB := nb_; clear nb_ n0_ n1_ n2_; have HNa := Aside0.mk ho; obtain ⟨AHNa, cHNa, rfl⟩ := Kd.R_slice HNa.out; clear hb hg_ ho))
 refine (impl_MixWaves.calls k _ _ [u, v] _ _ [wrap64 (1 + s), wrap64 (1 + t)] m mc _ (Kd.cZ HLa.out) (Kd.R_reads' HLa.out).2.1 (Kd.cZ HNa.out) (Kd.R_reads' HNa.out).2.1 HA.out).mono ?_
 rintro e w2 ⟨v_, rfl, ho, hb⟩
 have hx_ := Aside0.mk (Kd.R_lower ho bsZ)
 clear HLa HNa
 have n0_ := Aside0.mk (Kd.R_below (Kd.rZ HU.out) hb)
 have n1_ := Aside0.mk (Kd.R_below (Kd.rZ HV.out) hb)
 have nb_ := Aside0.mk (below_step bZ hb)
 clear HB HU HV
 have HU := n0_
 have HV := n1_
 have HB := nb_
 clear nb_ n0_ n1_
 have HM := hx_
 obtain ⟨AHM, cHM, rfl⟩ := Kd.R_slice HM.out
 clear hb ho hx_ HA
 obtain ⟨⟨ad, dc⟩, ha_, h⟩ := Option.bind_eq_some_iff.mp H.out
 have HA := Aside0.mk ha_
 clear H
 have H := Aside0.mk h
 clear h ha_
 go_wp2_with (first | ((with_reducible refine gate_dst (N := 56) rfl ?_); refine Kd.R_lit (w0 := w) (Kd.slice 49 k49) w.heap.size 24 ?hg (N := 56) ?hd (xs := [u]) (inner := [.slice AHU u.length cHU]) (ok := fun _ => True) (okp := fun _ => True) ?hr ?hp (fun _ hk => hk) trivial bZ bsZ (by simp) ?_; (case hd => rfl); (case hg => rfl); (case hr => first | (go_simp; done) | (go_simp; rfl)); (case hp => exact (Reps.one (Kd.M_row (Kd.rZ HU.out)) (Reps.none _ _))); intro v1 w2 ho hb hg_ hnew_; clear hnew_; have n0_ := Aside0.mk (Kd.R_grown (Kd.rZ HU.out) hg_ (fun _ _ => nofun)); have n1_ := Aside0.mk (Kd.R_grown (Kd.rZ HV.out) hg_ (fun _ _ => nofun)); have n2_ := Aside0.mk (Kd.R_grown (Kd.rZ HM.out) hg_ (fun _ _ => nofun)); have nb_ := Aside0.mk hb; clear HB HU HV HM; have HU := n0_; have HV := n1_; have HM := n2_; have HB := nb_; clear nb_ n0_ n1_ n2_; have HLb := Aside0.mk ho; obtain ⟨AHLb, cHLb, rfl⟩ := Kd.R_slice HLb.out; clear hb hg_ ho) | ((with_reducible refine gate_dst (N := 58) rfl ?_); refine Kd.R_lit (w0 := w) (Kd.int .i64) w.heap.size 2 ?hg (N := 58) ?hd (xs := ([wrap64 (1 + s)] : List Int)) (inner := [.int .i64 (wrap64 (1 + s))]) (ok := fun _ => True) (okp := fun _ => True) ?hr ?hp (fun _ hk => hk) trivial bZ bsZ (by simp) ?_; (case hd => rfl); (case hg => rfl); (case hr => first | (go_simp; done) | (go_simp; rfl)); (case hp => exact (Reps.one (show Kd.M (Kd.int .i64) _ _ _ (wrap64 (1 + s)) [.int .i64 (wrap64 (1 + s))] from rfl) (Reps.none _ _))); intro v1 w2 ho hb hg_ hnew_; clear hnew_; have n0_ := Aside0.mk (Kd.R_grown (Kd.rZ HU.out) hg_ (fun _ _ => nofun)); have n1_ := Aside0.mk (Kd.R_grown (Kd.rZ HV.out) hg_ (fun _ _ => nofun)); have n2_ := Aside0.mk (Kd.R_grown (Kd.rZ HM.out) hg_ (fun _ _ => nofun)); have n3_ := Aside0.mk (Kd.R_grown (Kd.rZ HLb.out) hg_ (fun _ _ => nofun)); have nb_ := Aside0.mk hb; clear HB HU HV HM HLb; have HU := n0_; have HV := n1_; have HM := n2_; have HLb := n3_; have HB := nb_; clear nb_ n0_ n1_ n2_ n3_; have HNb := Aside0.mk ho; obtain ⟨AHNb, cHNb, rfl⟩ := Kd.R_slice HNb.out; clear hb hg_ ho))
 refine (impl_MixWaves.calls k _ _ [u] _ _ [wrap64 (1 + s)] ad dc _ (Kd.cZ HLb.out) (Kd.R_reads' HLb.out).2.1 (Kd.cZ HNb.out) (Kd.R_reads' HNb.out).2.1 HA.out).mono ?_
 rintro e w2 ⟨v_, rfl, ho, hb⟩
 have hx_ := Aside0.mk (Kd.R_lower ho bsZ)
 clear HLb HNb
 have n0_ := Aside0.mk (Kd.R_below (Kd.rZ HU.out) hb)
 have n1_ := Aside0.mk (Kd.R_below (Kd.rZ HV.out) hb)
 have n2_ := Aside0.mk (Kd.R_below (Kd.rZ HM.out) hb)
 have nb_ := Aside0.mk (below_step bZ hb)
 clear HB HU HV HM
 have HU := n0_
 have HV := n1_
 have HM := n2_
 have HB := nb_
 clear nb_ n0_ n1_ n2_
 have HD := hx_
 obtain ⟨AHD, cHD, rfl⟩ := Kd.R_slice HD.out
 clear hb ho hx_ HA
 obtain ⟨⟨tr, tc⟩, ha_, h⟩ := Option.bind_eq_some_iff.mp H.out
 have HA := Aside0.mk ha_
 clear H
 have H := Aside0.mk h
 clear h ha_
 go_wp2_with fail
 refine (spec_TrimWave.calls k _ _ u tr tc _ (Kd.cZ HU.out) (Kd.R_reads' HU.out).2.1 HA.out).mono ?_
 rintro e w2 ⟨v_, rfl, ho, hb⟩
 have hx_ := Aside0.mk (Kd.R_lower ho bsZ)
 have n0_ := Aside0.mk (Kd.R_below (Kd.rZ HU.out) hb)
 have n1_ := Aside0.mk (Kd.R_below (Kd.rZ HV.out) hb)
 have n2_ := Aside0.mk (Kd.R_below (Kd.rZ HM.out) hb)
 have n3_ := Aside0.mk (Kd.R_below (Kd.rZ HD.out) hb)
 have nb_ := Aside0.mk (below_step bZ hb)
 clear HB HU HV HM HD
 have HU := n0_
 have HV := n1_
 have HM := n2_
 have HD := n3_
 have HB := nb_
 clear nb_ n0_ n1_ n2_ n3_
 have HT := hx_
 obtain ⟨AHT, cHT, rfl⟩ := Kd.R_slice HT.out
 clear hb ho hx_ HA
 try dsimp only at H
 have h := H.out
 clear H
 by_cases q1 : mc = 0
 rotate_left
 ·rw [if_neg q1] at h; cases h
 rw [if_pos q1] at h
 have H := Aside0.mk h
 clear h
 subst q1
 obtain ⟨b1, ha_, h⟩ := Option.bind_eq_some_iff.mp H.out
 have HA := Aside0.mk ha_
 clear H
 have H := Aside0.mk h
 clear h ha_
 go_wp2_with fail
 refine (spec_ValidWave.calls k _ _ m b1 _ (Kd.cZ HM.out) (Kd.R_reads' HM.out).2.1 HA.out).mono ?_
 rintro e w2 ⟨rfl, hb⟩
 have n0_ := Aside0.mk (Kd.R_below (Kd.rZ HU.out) hb)
 have n1_ := Aside0.mk (Kd.R_below (Kd.rZ HV.out) hb)
 have n2_ := Aside0.mk (Kd.R_below (Kd.rZ HM.out) hb)
 have n3_ := Aside0.mk (Kd.R_below (Kd.rZ HD.out) hb)
 have n4_ := Aside0.mk (Kd.R_below (Kd.rZ HT.out) hb)
 have nb_ := Aside0.mk (below_step bZ hb)
 clear HB HU HV HM HD HT
 have HU := n0_
 have HV := n1_
 have HM := n2_
 have HD := n3_
 have HT := n4_
 have HB := nb_
 clear nb_ n0_ n1_ n2_ n3_ n4_
 clear hb HA
 try dsimp only at H
 have h := H.out
 clear H
 by_cases q2 : b1 = true
 rotate_left
 ·rw [if_neg q2] at h; cases h
 rw [if_pos q2] at h
 have H := Aside0.mk h
 clear h
 subst q2
 have h := H.out
 clear H
 by_cases q3 : dc = 0
 rotate_left
 ·rw [if_neg q3] at h; cases h
 rw [if_pos q3] at h
 have H := Aside0.mk h
 clear h
 subst q3
 obtain ⟨b2, ha_, h⟩ := Option.bind_eq_some_iff.mp H.out
 have HA := Aside0.mk ha_
 clear H
 have H := Aside0.mk h
 clear h ha_
 go_wp2_with fail
 refine (spec_SameWave.calls k _ _ ad _ _ tr b2 _ (Kd.cZ HD.out) (Kd.R_reads' HD.out).2.1 (Kd.cZ HT.out) (Kd.R_reads' HT.out).2.1 HA.out).mono ?_
 rintro e w_ ⟨rfl, ⟨nd_, rfl⟩⟩
 clear HA
 have h := H.out
 clear H
 by_cases q4 : b2 = true
 rotate_left
 ·rw [if_neg q4] at h; cases h
 rw [if_pos q4] at h
 have H := Aside0.mk h
 clear h
 subst q4
 have h := H.out
 unfold laws_FnMixing.g2 at h
 clear H HD HT
 have H := Aside0.mk h
 clear h
 obtain ⟨time, ha_, h⟩ := Option.bind_eq_some_iff.mp H.out
 have HA := Aside0.mk ha_
 clear H
 have H := Aside0.mk h
 clear h ha_
 go_wp2_with fail
 refine (laws_r8Wide.calls _ _ l1 4 6000 time _ (Kd.C_below HR1.out bZ) HC1.out HA.out).mono ?_
 rintro e w_ ⟨rfl, ⟨nd_, rfl⟩⟩
 clear HA
 obtain ⟨⟨x, xe⟩, ha_, h⟩ := Option.bind_eq_some_iff.mp H.out
 have HA := Aside0.mk ha_
 clear H
 have H := Aside0.mk h
 clear h ha_
 go_wp2_with fail
 refine (spec_WaveAt.calls k _ _ u time x xe _ (Kd.cZ HU.out) (Kd.R_reads' HU.out).2.1 HA.out).mono ?_
 rintro e w2 ⟨rfl, hb⟩
 have n0_ := Aside0.mk (Kd.R_below (Kd.rZ HU.out) hb)
 have n1_ := Aside0.mk (Kd.R_below (Kd.rZ HV.out) hb)
 have n2_ := Aside0.mk (Kd.R_below (Kd.rZ HM.out) hb)
 have nb_ := Aside0.mk (below_step bZ hb)
 clear HB HU HV HM
 have HU := n0_
 have HV := n1_
 have HM := n2_
 have HB := nb_
 clear nb_ n0_ n1_ n2_
 clear hb HA
 obtain ⟨⟨y, yf⟩, ha_, h⟩ := Option.bind_eq_some_iff.mp H.out
 have HA := Aside0.mk ha_
 clear H
 have H := Aside0.mk h
 clear h ha_
 go_wp2_with fail
 refine (spec_WaveAt.calls k _ _ v time y yf _ (Kd.cZ HV.out) (Kd.R_reads' HV.out).2.1 HA.out).mono ?_
 rintro e w2 ⟨rfl, hb⟩
 have n0_ := Aside0.mk (Kd.R_below (Kd.rZ HU.out) hb)
 have n1_ := Aside0.mk (Kd.R_below (Kd.rZ HV.out) hb)
 have n2_ := Aside0.mk (Kd.R_below (Kd.rZ HM.out) hb)
 have nb_ := Aside0.mk (below_step bZ hb)
 clear HB HU HV HM
 have HU := n0_
 have HV := n1_
 have HM := n2_
 have HB := nb_
 clear nb_ n0_ n1_ n2_
 clear hb HA
 obtain ⟨⟨z, zg⟩, ha_, h⟩ := Option.bind_eq_some_iff.mp H.out
 have HA := Aside0.mk ha_
 clear H
 have H := Aside0.mk h
 clear h ha_
 go_wp2_with fail
 refine (impl_WaveAt.calls k _ _ m time z zg _ (Kd.cZ HM.out) (Kd.R_reads' HM.out).2.1 HA.out).mono ?_
 rintro e w2 ⟨rfl, hb⟩
 have n0_ := Aside0.mk (Kd.R_below (Kd.rZ HU.out) hb)
 have n1_ := Aside0.mk (Kd.R_below (Kd.rZ HV.out) hb)
 have n2_ := Aside0.mk (Kd.R_below (Kd.rZ HM.out) hb)
 have nb_ := Aside0.mk (below_step bZ hb)
 clear HB HU HV HM
 have HU := n0_
 have HV := n1_
 have HM := n2_
 have HB := nb_
 clear nb_ n0_ n1_ n2_
 clear hb HA
 try dsimp only at H
 have h := H.out
 clear H
 by_cases q5 : xe = 0
 rotate_left
 ·rw [if_neg q5] at h; cases h
 rw [if_pos q5] at h
 have H := Aside0.mk h
 clear h
 subst q5
 have h := H.out
 clear H
 by_cases q6 : yf = 0
 rotate_left
 ·rw [if_neg q6] at h; cases h
 rw [if_pos q6] at h
 have H := Aside0.mk h
 clear h
 subst q6
 have h := H.out
 clear H
 by_cases q7 : zg = 0
 rotate_left
 ·rw [if_neg q7] at h; cases h
 rw [if_pos q7] at h
 have H := Aside0.mk h
 clear h
 subst q7
 have h := H.out
 clear H
 by_cases q8 : z < mn x y
 ·rw [if_pos q8] at h; cases h
 rw [if_neg q8] at h
 have H := Aside0.mk h
 clear h
 have h := H.out
 clear H
 by_cases q9 : z > mx x y
 ·rw [if_pos q9] at h; cases h
 rw [if_neg q9] at h
 have H := Aside0.mk h
 clear h
 have q8b := Aside0.mk q8
 have q9b := Aside0.mk q9
 clear q8 q9
 rcases Int.lt_trichotomy x y with hyx | hyx | hyx
 all_goals
  first | (have hy0 : x < y := hyx; have hy1 := eq_false (show ¬ y < x from by omega); have hy2 := eq_true hy0; have e8 := eq_false (show ¬ z < x from by intro hz; apply q8b.out; unfold mn; split <;> omega); have e9 := eq_false (show ¬ y < z from by intro hz; apply q9b.out; unfold mx; split <;> omega); clear hy0) | (have hy0 : x = y := hyx; have hy1 := eq_false (show ¬ y < x from by omega); have hy2 := eq_false (show ¬ x < y from by omega); have e8 := eq_false (show ¬ z < x from by intro hz; apply q8b.out; unfold mn; split <;> omega); have e9 := eq_false (show ¬ x < z from by intro hz; apply q9b.out; unfold mx; split <;> omega); clear hy0) | (have hy0 : y < x := hyx; have hy1 := eq_true hy0; have hy2 := eq_false (show ¬ x < y from by omega); have e8 := eq_false (show ¬ z < y from by intro hz; apply q8b.out; unfold mn; split <;> omega); have e9 := eq_false (show ¬ x < z from by intro hz; apply q9b.out; unfold mx; split <;> omega); clear hy0)
  clear hyx
  obtain ⟨⟨p1, p2, p3, p4, p5, p6⟩, ha_, h⟩ := Option.bind_eq_some_iff.mp H.out
  have HA := Aside0.mk ha_
  clear H
  have H := Aside0.mk h
  clear h ha_
  go_wp2_with fail
  refine (spec_R8Pipe.calls _ _ l0 p1 p2 p3 p4 p5 p6 _ (Kd.C_below HR0.out bZ) HC0.out HA.out).mono ?_
  rintro e w2 ⟨rfl, hb⟩
  have n0_ := Aside0.mk (Kd.R_below (Kd.rZ HU.out) hb)
  have n1_ := Aside0.mk (Kd.R_below (Kd.rZ HV.out) hb)
  have n2_ := Aside0.mk (Kd.R_below (Kd.rZ HM.out) hb)
  have nb_ := Aside0.mk (below_step bZ hb)
  clear HB HU HV HM
  have HU := n0_
  have HV := n1_
  have HM := n2_
  have HB := nb_
  clear nb_ n0_ n1_ n2_
  clear hb HA
  try dsimp only at H
  obtain ⟨⟨out, hc⟩, ha_, h⟩ := Option.bind_eq_some_iff.mp H.out
  have HA := Aside0.mk ha_
  clear H
  have H := Aside0.mk h
  clear h ha_
  go_wp2_with (first | ((with_reducible refine gate_dst (N := 22) rfl ?_); refine boxZ 22 #[.string (⟨#[]⟩ : ByteArray), .int .i64 0, .int .i64 0, .int .i64 0, .int .i64 0, .int .i64 0] 37 rfl rfl ?_; intro g1 hg w1 hk hb; have HG1 := Aside0.mk hg; have HBX := Aside0.mk hk; have HB1 := Aside0.mk hb; clear hg hk hb) | ((with_reducible refine gate_store (t := 37) (p := 22) rfl ?_); refine BoxS.st 37 (.tmp 22) (.tmp 129) g1 (cs := #[.string p1, .int .i64 p2, .int .i64 p3, .int .i64 p4, .int .i64 p5, .int .i64 p6]) rfl rfl rfl rfl rfl HBX.out rfl HIP.out (by simp [Value.oneCell']) ?_; intro w2 hk hb; have hb3 := HB1.out.trans (HG1.out ▸ hb); have n0_ := Aside0.mk (Kd.R_below (Kd.rZ HU.out) hb3); have n1_ := Aside0.mk (Kd.R_below (Kd.rZ HV.out) hb3); have n2_ := Aside0.mk (Kd.R_below (Kd.rZ HM.out) hb3); have nb_ := Aside0.mk (below_step bZ hb3); have BP := Aside0.mk hk; clear HB HBX HB1 HG1 hk hb hb3 HU HV HM; have HU := n0_; have HV := n1_; have HM := n2_; have HB := nb_; clear nb_ n0_ n1_ n2_) | ((with_reducible refine gate_dst (N := 131) rfl ?_); refine BoxS.ld 37 (.tmp 22) g1 (cs := #[.string p1, .int .i64 p2, .int .i64 p3, .int .i64 p4, .int .i64 p5, .int .i64 p6]) rfl rfl rfl (kZ BP.out) hup rfl HIP.out ?_))
  refine (impl_ThroughPipe.calls k p1 p2 p3 p4 p5 p6 (wrap64 (1 + s)) _ _ u 800 1000 out hc _ (Kd.cZ HU.out) (Kd.R_reads' HU.out).2.1 HA.out).mono ?_
  rintro e w2 ⟨v_, rfl, ho, hb⟩
  have hx_ := Aside0.mk (Kd.R_lower ho bsZ)
  have n0_ := Aside0.mk (Kd.R_below (Kd.rZ HU.out) hb)
  have n1_ := Aside0.mk (Kd.R_below (Kd.rZ HV.out) hb)
  have n2_ := Aside0.mk (Kd.R_below (Kd.rZ HM.out) hb)
  have m0_ := Aside0.mk (blk_below (kZ BP.out) hb)
  have nb_ := Aside0.mk (below_step bZ hb)
  clear HB HU HV HM BP
  have HU := n0_
  have HV := n1_
  have HM := n2_
  have BP := m0_
  have HB := nb_
  clear nb_ n0_ n1_ n2_ m0_
  have HO := hx_
  obtain ⟨AHO, cHO, rfl⟩ := Kd.R_slice HO.out
  clear hb ho hx_ HA
  obtain ⟨⟨dl, dlc⟩, ha_, h⟩ := Option.bind_eq_some_iff.mp H.out
  have HA := Aside0.mk ha_
  clear H
  have H := Aside0.mk h
  clear h ha_
  go_wp2_with (first | ((with_reducible refine gate_dst (N := 138) rfl ?_); refine BoxS.ld 37 (.tmp 22) g1 (cs := #[.string p1, .int .i64 p2, .int .i64 p3, .int .i64 p4, .int .i64 p5, .int .i64 p6]) rfl rfl rfl (kZ BP.out) hup rfl HIP.out ?_))
  refine (spec_DelayOf.calls k p1 p2 p3 p4 p5 p6 (wrap64 (1 + s)) dl dlc _ HA.out).mono ?_
  rintro e w2 ⟨rfl, hb⟩
  have n0_ := Aside0.mk (Kd.R_below (Kd.rZ HU.out) hb)
  have n1_ := Aside0.mk (Kd.R_below (Kd.rZ HV.out) hb)
  have n2_ := Aside0.mk (Kd.R_below (Kd.rZ HM.out) hb)
  have n3_ := Aside0.mk (Kd.R_below (Kd.rZ HO.out) hb)
  have m0_ := Aside0.mk (blk_below (kZ BP.out) hb)
  have nb_ := Aside0.mk (below_step bZ hb)
  clear HB HU HV HM HO BP
  have HU := n0_
  have HV := n1_
  have HM := n2_
  have HO := n3_
  have BP := m0_
  have HB := nb_
  clear nb_ n0_ n1_ n2_ n3_ m0_
  clear hb HA
  have h := H.out
  unfold laws_FnMixing.g3 at h
  dsimp only at h
  clear H
  by_cases q10 : hc = 0
  rotate_left
  ·rw [if_neg q10] at h
   by_cases q11 : hc = 6
   rotate_left
   ·rw [if_neg q11] at h; cases h
   rw [if_pos q11] at h
   subst q11
   by_cases q12 : dl > 900000
   rotate_left
   ·rw [if_neg q12] at h; cases h
   rw [if_pos q12] at h
   obtain rfl := Option.some.inj h
   have q12b := decide_eq_true q12
   clear h q12 q10
   go_wp2
   go_ret
   exact ⟨eZ, bZ⟩
  rw [if_pos q10] at h
  subst q10
  by_cases q12 : dl > 900000
  ·rw [if_pos q12] at h
   obtain rfl := Option.some.inj h
   have q12b := decide_eq_true q12
   clear h q12
   go_wp2
   go_ret
   exact ⟨eZ, bZ⟩
  rw [if_neg q12] at h
  have q12b := decide_eq_false q12
  clear q12
  have H := Aside0.mk h
  clear h
  obtain ⟨⟨ei, ec⟩, ha_, h⟩ := Option.bind_eq_some_iff.mp H.out
  have HA := Aside0.mk ha_
  clear H
  have H := Aside0.mk h
  clear h ha_
  go_wp2_with fail
  refine (impl_WaveAt.calls k _ _ out (wrap64 (time + dl)) ei ec _ (Kd.cZ HO.out) (Kd.R_reads' HO.out).2.1 HA.out).mono ?_
  rintro e w2 ⟨rfl, hb⟩
  have n0_ := Aside0.mk (Kd.R_below (Kd.rZ HU.out) hb)
  have n1_ := Aside0.mk (Kd.R_below (Kd.rZ HV.out) hb)
  have n2_ := Aside0.mk (Kd.R_below (Kd.rZ HM.out) hb)
  have n3_ := Aside0.mk (Kd.R_below (Kd.rZ HO.out) hb)
  have m0_ := Aside0.mk (blk_below (kZ BP.out) hb)
  have nb_ := Aside0.mk (below_step bZ hb)
  clear HB HU HV HM HO BP
  have HU := n0_
  have HV := n1_
  have HM := n2_
  have HO := n3_
  have BP := m0_
  have HB := nb_
  clear nb_ n0_ n1_ n2_ n3_ m0_
  clear hb HA
  obtain ⟨⟨wj, wc⟩, ha_, h⟩ := Option.bind_eq_some_iff.mp H.out
  have HA := Aside0.mk ha_
  clear H
  have H := Aside0.mk h
  clear h ha_
  go_wp2_with (first | ((with_reducible refine gate_dst (N := 162) rfl ?_); refine BoxS.ld 37 (.tmp 22) g1 (cs := #[.string p1, .int .i64 p2, .int .i64 p3, .int .i64 p4, .int .i64 p5, .int .i64 p6]) rfl rfl rfl (kZ BP.out) hup rfl HIP.out ?_))
  refine (spec_EndTemperature.calls k p1 p2 p3 p4 p5 p6 (wrap64 (1 + s)) x 800 wj wc _ HA.out).mono ?_
  rintro e w2 ⟨rfl, hb⟩
  have n0_ := Aside0.mk (Kd.R_below (Kd.rZ HU.out) hb)
  have n1_ := Aside0.mk (Kd.R_below (Kd.rZ HV.out) hb)
  have n2_ := Aside0.mk (Kd.R_below (Kd.rZ HM.out) hb)
  have n3_ := Aside0.mk (Kd.R_below (Kd.rZ HO.out) hb)
  have m0_ := Aside0.mk (blk_below (kZ BP.out) hb)
  have nb_ := Aside0.mk (below_step bZ hb)
  clear HB HU HV HM HO BP
  have HU := n0_
  have HV := n1_
  have HM := n2_
  have HO := n3_
  have BP := m0_
  have HB := nb_
  clear nb_ n0_ n1_ n2_ n3_ m0_
  clear hb HA
  obtain ⟨b3, ha_, h⟩ := Option.bind_eq_some_iff.mp H.out
  have HA := Aside0.mk ha_
  clear H
  have H := Aside0.mk h
  clear h ha_
  go_wp2_with fail
  refine (spec_ValidWave.calls k _ _ out b3 _ (Kd.cZ HO.out) (Kd.R_reads' HO.out).2.1 HA.out).mono ?_
  rintro e w2 ⟨rfl, hb⟩
  have n0_ := Aside0.mk (Kd.R_below (Kd.rZ HU.out) hb)
  have n1_ := Aside0.mk (Kd.R_below (Kd.rZ HV.out) hb)
  have n2_ := Aside0.mk (Kd.R_below (Kd.rZ HM.out) hb)
  have n3_ := Aside0.mk (Kd.R_below (Kd.rZ HO.out) hb)
  have m0_ := Aside0.mk (blk_below (kZ BP.out) hb)
  have nb_ := Aside0.mk (below_step bZ hb)
  clear HB HU HV HM HO BP
  have HU := n0_
  have HV := n1_
  have HM := n2_
  have HO := n3_
  have BP := m0_
  have HB := nb_
  clear nb_ n0_ n1_ n2_ n3_ m0_
  clear hb HA
  try dsimp only at H
  have h := H.out
  clear H
  by_cases q13 : b3 = true
  rotate_left
  ·rw [if_neg q13] at h; cases h
  rw [if_pos q13] at h
  have H := Aside0.mk h
  clear h
  subst q13
  have h := H.out
  clear H
  by_cases q14 : ec = 0
  rotate_left
  ·rw [if_neg q14] at h; cases h
  rw [if_pos q14] at h
  have H := Aside0.mk h
  clear h
  subst q14
  have h := H.out
  clear H
  by_cases q15 : wc = 0
  rotate_left
  ·rw [if_neg q15] at h; cases h
  rw [if_pos q15] at h
  have H := Aside0.mk h
  clear h
  subst q15
  have h := H.out
  clear H
  by_cases q16 : ei = wj
  rotate_left
  ·rw [if_neg q16] at h; cases h
  rw [if_pos q16] at h
  have H := Aside0.mk h
  clear h
  subst q16
  obtain rfl := Option.some.inj H.out
  clear H
  go_wp2
  go_ret
  exact ⟨eZ, bZ⟩
end Go.Proofs.Ytmmlhbfkchbpaaa.XX
end

section
namespace Go.Proofs.Ytmmlhbfkchbpaaa.Open
open Go.ChangeShapes Go.WideShapes Go.RowKit Go.Proofs.YtmmlhbfkchbpaaaW.PrintWords
set_option linter.unusedVariables false
def Opens (P : Program) (t : TypeId) {α : Type} (d : Kd α) (Q : α → Prop) : Prop :=
  P.cellsOf t = d.sz ∧ ∀ (H : Type) (enc : TypeId × Value → H) (w : World) (base : Nat) (spare : Nat → Bool) (held : Bool) (fuel : Nat) (cs : List Value) (x : DataW H × List MemPlace),
    DataW.trod enc P w base spare held fuel t cs = some x → ∃ a : α, d.K w a cs ∧ Q a
theorem Opens.int {P : Program} {t : TypeId} {k : IntKind} (hu : P.underlying t = some (.int k)) (hc : P.cellsOf t = 1) : Opens P t (Kd.int k) (fun n => (Lit.int k n).wf = true) := by
  refine ⟨hc, fun H enc w base spare held fuel cs x h => ?_⟩
  obtain ⟨n, rfl, _, hw⟩ := DataW.trod_int hu h
  exact ⟨n, rfl, hw⟩
theorem Opens.bool {P : Program} {t : TypeId} (hu : P.underlying t = some .bool) (hc : P.cellsOf t = 1) : Opens P t Kd.bool (fun _ => True) := by
  refine ⟨hc, fun H enc w base spare held fuel cs x h => ?_⟩
  obtain ⟨b, rfl, _⟩ := DataW.trod_bool hu h
  exact ⟨b, rfl, trivial⟩
theorem Opens.string {P : Program} {t : TypeId} (hu : P.underlying t = some .string) (hc : P.cellsOf t = 1) : Opens P t Kd.string (fun s => s.size ≤ maxLen) := by
  refine ⟨hc, fun H enc w base spare held fuel cs x h => ?_⟩
  obtain ⟨s, rfl, _, hs⟩ := DataW.trod_string hu h
  exact ⟨s, rfl, hs⟩
theorem choose_list {α : Type} {n : Nat} {p : Nat → α → Prop} (h : ∀ i, i < n → ∃ x, p i x) : ∃ l : List α, l.length = n ∧ ∀ i x, l[i]? = some x → p i x := by
  induction n with
  | zero => exact ⟨[], rfl, fun i x hx => by simp at hx⟩
  | succ n ih =>
    obtain ⟨l, hl, hp⟩ := ih (fun i hi => h i (by omega))
    obtain ⟨x, hx⟩ := h n (by omega)
    refine ⟨l ++ [x], by simp [hl], fun i y hy => ?_⟩
    rcases Nat.lt_or_ge i l.length with hi | hi
    · rw [List.getElem?_append_left hi] at hy
      exact hp i y hy
    · have : i = l.length := by
        have := (List.getElem?_eq_some_iff.1 hy).1
        simp at this
        omega
      subst this
      simp at hy
      subst hy
      rw [hl]
      exact hx
theorem cells?_get {w : World} {base : Nat} {a : Addr} {n : Nat} {cs : List Value} (h : w.cells? base a n = some cs) (i : Nat) (u : Value) (hu : cs[i]? = some u) : w.cell? (a.add i) = some u := by
  unfold World.cells? at h
  split at h
  · have hlen : cs.length = n := by simpa using mapM_some_length h
    have hi : i < n := by
      have := (List.getElem?_eq_some_iff.1 hu).1
      omega
    have := mapM_some_get h i i (by simp [hi])
    rw [hu] at this
    exact this
  · cases h
theorem Opens.slice {P : Program} {t e : TypeId} {α : Type} {d : Kd α} {Q : α → Prop} (hu : P.underlying t = some (.slice e)) (hc : P.cellsOf t = 1) (hd : Opens P e d Q) :
    Opens P t (Kd.slice e d) (fun xs => xs.length ≤ maxLen ∧ ∀ x ∈ xs, Q x) := by
  refine ⟨hc, fun H enc w base spare held fuel cs x h => ?_⟩
  rcases Go.Deep.open_slice hu h with ⟨rfl, _⟩ | ⟨a, len, cap, m, n, D, Pl, rfl, _, hl, hm, hmm, _, hx⟩
  · exact ⟨[], ⟨none, 0, rfl, Nat.le_refl _, rfl, by simp, fun h => absurd h (by simp)⟩, by simp, fun x hx => by simp at hx⟩
  · have hlm : len ≤ m := by rw [hmm]; split <;> omega
    obtain ⟨l, hl1, hp⟩ := choose_list (n := len) (p := fun i (x : α) => ∃ cs', w.cells? base (a.add (i * d.sz)) d.sz = some cs' ∧ d.K w x cs' ∧ Q x) (fun i hi => by
      obtain ⟨cs', h1, h2⟩ := hx i (by omega)
      rw [hd.1] at h1
      obtain ⟨y, hy, hq⟩ := hd.2 H enc w base spare held n cs' _ h2
      exact ⟨y, cs', h1, hy, hq⟩)
    have hmax : (maxLen : Nat) = 9223372036854775807 := by unfold maxLen; omega
    refine ⟨l, ⟨some a, cap, by rw [hl1], by omega, rfl, by omega, fun _ => ⟨a, rfl, fun j p hj => ?_⟩⟩, by omega, fun x hx => ?_⟩
    · obtain ⟨cs', h1, h2, _⟩ := hp j p hj
      refine ⟨cs', d.K_len h2, h2, fun i u hi => ?_⟩
      have := cells?_get h1 i u hi
      rwa [Go.Deep.add_add] at this
    · obtain ⟨i, hi, rfl⟩ := List.mem_iff_getElem.1 hx
      obtain ⟨cs', _, _, h3⟩ := hp i _ (List.getElem?_eq_getElem hi)
      exact h3
def OpensF (P : Program) (fs : List Field) (off : Nat) {α : Type} (d : Kd α) (Q : α → Prop) : Prop :=
  ∀ (H : Type) (enc : TypeId × Value → H) (w : World) (base : Nat) (spare : Nat → Bool) (held : Bool) (n : Nat) (cs : List Value), off + d.sz = cs.length →
    (∀ f ∈ fs, ∃ y, DataW.trod enc P w base spare held n f.type ((cs.drop f.offset).take (P.cellsOf f.type)) = some y) → ∃ a : α, d.K w a (cs.drop off) ∧ Q a
theorem OpensF.one {P : Program} {f : Field} {off : Nat} {α : Type} {d : Kd α} {Q : α → Prop} (ho : f.offset = off) (h : Opens P f.type d Q) : OpensF P [f] off d Q := by
  intro H enc w base spare held n cs hl hf
  obtain ⟨y, hy⟩ := hf f List.mem_cons_self
  rw [ho, h.1, List.take_of_length_le (by rw [List.length_drop]; omega)] at hy
  exact h.2 H enc w base spare held n _ y hy
theorem OpensF.cons {P : Program} {f : Field} {fs : List Field} {off : Nat} {α β : Type} {d1 : Kd α} {d2 : Kd β} {Q1 : α → Prop} {Q2 : β → Prop} (ho : f.offset = off) (h : Opens P f.type d1 Q1) (hs : OpensF P fs (off + d1.sz) d2 Q2) :
    OpensF P (f :: fs) off (Kd.pair d1 d2) (fun x => Q1 x.1 ∧ Q2 x.2) := by
  intro H enc w base spare held n cs hl hf
  have hl' : off + (d1.sz + d2.sz) = cs.length := hl
  obtain ⟨y, hy⟩ := hf f List.mem_cons_self
  rw [ho, h.1] at hy
  obtain ⟨a, ha, qa⟩ := h.2 H enc w base spare held n _ y hy
  obtain ⟨b, hb, qb⟩ := hs H enc w base spare held n cs (by omega) (fun g hg => hf g (List.mem_cons_of_mem _ hg))
  refine ⟨(a, b), ⟨_, _, ?_, ha, hb⟩, qa, qb⟩
  rw [← List.drop_drop, List.take_append_drop]
theorem Opens.struct {P : Program} {t : TypeId} {fs : Array Field} {α β : Type} {d : Kd α} {Q : α → Prop} (f : β → α) (g : α → β) (hfg : ∀ x, f (g x) = x) (hu : P.underlying t = some (.struct fs)) (hc : P.cellsOf t = d.sz) (h : OpensF P fs.toList 0 d Q) :
    Opens P t (Kd.iso d f) (fun x => Q (f x)) := by
  refine ⟨hc, fun H enc w base spare held fuel cs x hx => ?_⟩
  obtain ⟨xs, n, rfl, _, hl, hxs, hf⟩ := DataW.trod_struct hu hx
  obtain ⟨a, ha, qa⟩ := h H enc w base spare held n cs (by omega) (fun f hf0 => by
    obtain ⟨i, hi, rfl⟩ := List.mem_iff_getElem.1 hf0
    have hi' : i < fs.size := by simpa using hi
    have := hf i fs[i] (Array.getElem?_eq_getElem hi')
    rw [List.getElem?_eq_getElem (by omega)] at this
    exact ⟨_, by simpa using this⟩)
  refine ⟨g a, ?_, ?_⟩
  · show d.K w (f (g a)) cs
    rw [hfg]
    simpa using ha
  · show Q (f (g a))
    rw [hfg]
    exact qa
theorem open_sl {H : Type} {enc : TypeId × Value → H} {P : Program} {W : World} {base B : Nat} {spare : Nat → Bool} {held : Bool} {t e : TypeId} {v : Value} {dd : DataW H} {ps : List MemPlace} {α : Type} {d : Kd α} {Q : α → Prop}
    (hu : P.underlying t = some (.slice e)) (hc : P.cellsOf t = 1) (hd : Opens P e d Q) (hv : Value.okWide P W .any B t v) (h : DataW.Trod enc P W base spare held t v dd ps) :
    ∃ (A : Option Addr) (c : Nat) (l : List α), v = .slice A l.length c ∧ l.length ≤ c ∧ Kd.C d W A l.length l ∧ l.length ≤ maxLen ∧ ∀ x ∈ l, Q x := by
  obtain ⟨a0, len, cap, rfl⟩ := okWide_slice hu hv
  obtain ⟨fuel, hf⟩ := h
  obtain ⟨l, ⟨A, c, he, hl, hC⟩, hm, hq⟩ := (Opens.slice hu hc hd).2 H enc W base spare held fuel _ _ hf
  refine ⟨A, c, l, ?_, hl, hC, hm, hq⟩
  simpa [Value.cells] using he
end Go.Proofs.Ytmmlhbfkchbpaaa.Open
end

section
namespace Go.Proofs.Ytmmlhbfkchbpaaa.XX
open Go.RowKit Go.Proofs.YtmmlhbfkchbpaaaW.PrintWords
def laws_FnMixing.Pure : Prop := ∀ (a0 : List Int), ∀ (a1 : List Int), ((a0.length ≤ maxLen ∧ ∀ y2 ∈ a0, (Lit.int .u8 y2).wf = true)) → ((a1.length ≤ maxLen ∧ ∀ y2 ∈ a1, (Lit.int .u8 y2).wf = true)) → ∃ k, laws_FnMixing.f k a0 a1 = some true
end Go.Proofs.Ytmmlhbfkchbpaaa.XX
end

section
namespace Go.Proofs.Ytmmlhbfkchbpaaa.EvK
open Go.RowKit Go.Proofs.YtmmlhbfkchbpaaaW.PrintWords
set_option linter.unusedVariables false
theorem w64 {n : Int} (h : -9223372036854775808 ≤ n) (h' : n ≤ 9223372036854775807) : wrap64 n = n := by unfold wrap64; omega
theorem Ev.some {α : Type} {a r : α} (h : a = r) : Ev (fun _ => Option.some a) r := h ▸ Ev.now a
theorem Ev.bind_some {α β : Type} {g : Nat → Option α} {f : Nat → α → Option β} {a : α} {r : β} (h : Ev g a) (k : Ev (fun n => f n a) r) : Ev (fun n => (g n).bind (f n)) r := Ev.bind h k
def EvP {α : Type} (g : Nat → Option α) (P : α → Prop) : Prop := ∃ r, Ev g r ∧ P r
theorem EvP.now {α : Type} {r : α} {P : α → Prop} (h : P r) : EvP (fun _ => Option.some r) P := ⟨r, Ev.now r, h⟩
theorem EvP.of {α : Type} {g : Nat → Option α} {r : α} {P : α → Prop} (h : Ev g r) (hp : P r) : EvP g P := ⟨r, h, hp⟩
theorem EvP.mono {α : Type} {g : Nat → Option α} {P Q : α → Prop} (h : EvP g P) (hp : ∀ r, P r → Q r) : EvP g Q := by
  obtain ⟨r, h1, h2⟩ := h
  exact ⟨r, h1, hp _ h2⟩
theorem EvP.eq {α : Type} {g : Nat → Option α} {r : α} (h : EvP g (· = r)) : Ev g r := by
  obtain ⟨r', h, rfl⟩ := h
  exact h
theorem EvP.step {α : Type} {g f : Nat → Option α} {P : α → Prop} (h : ∀ k, g (k + 1) = f k) (k : EvP f P) : EvP g P := by
  obtain ⟨r, h1, h2⟩ := k
  exact ⟨r, Ev.step h h1, h2⟩
theorem EvP.bind {α β : Type} {g : Nat → Option α} {f : Nat → α → Option β} {a : α} {P : β → Prop} (h : Ev g a) (k : EvP (fun n => f n a) P) : EvP (fun n => (g n).bind (f n)) P := by
  obtain ⟨r, h1, h2⟩ := k
  exact ⟨r, Ev.bind h h1, h2⟩
theorem EvP.bindP {α β : Type} {g : Nat → Option α} {f : Nat → α → Option β} {Q : α → Prop} {P : β → Prop} (h : EvP g Q) (k : ∀ a, Q a → EvP (fun n => f n a) P) : EvP (fun n => (g n).bind (f n)) P := by
  obtain ⟨a, ha, hq⟩ := h
  exact EvP.bind ha (k a hq)
theorem EvP.rounds {α : Type} {g : Nat → Option α} {r : α} (h : EvP g (· = r)) : ∃ k, g k = Option.some r := Ev.rounds (EvP.eq h)
theorem for_evp {σ ρ : Type} {L : Nat → σ → Int → Option ρ} {Post : ρ → Prop} (n : Nat) (inv : Nat → σ → Prop)
    (step : ∀ (i : Nat) (s : σ), i < n → inv i s → (∀ s', inv (i + 1) s' → EvP (fun k => L k s' ((i : Int) + 1)) Post) → EvP (fun k => L k s i) Post)
    (fin : ∀ s, inv n s → EvP (fun k => L k s n) Post) (s : σ) (h0 : inv 0 s) : EvP (fun k => L k s 0) Post := by
  have key : ∀ (d i : Nat) (s : σ), i + d = n → inv i s → EvP (fun k => L k s i) Post := by
    intro d
    induction d with
    | zero =>
      intro i s hi hs
      obtain rfl : i = n := by omega
      exact fin s hs
    | succ d ih =>
      intro i s hi hs
      refine step i s (by omega) hs (fun s' hs' => ?_)
      simpa using ih (i + 1) s' (by omega) hs'
  simpa using key n 0 s (by omega) h0
theorem take_all {α : Type} {p : α → Prop} {l : List α} {i : Nat} (h : i < l.length) (hs : ∀ x ∈ l.take i, p x) (hx : p l[i]) : ∀ x ∈ l.take (i + 1), p x := by
  rw [List.take_succ_eq_append_getElem h]
  intro x hm
  rcases List.mem_append.1 hm with hm | hm
  · exact hs x hm
  · rw [List.mem_singleton.1 hm]
    exact hx
theorem all_ev {α : Type} {L : Nat → Int → Option Bool} (l : List α) (p : α → Bool) (b : Bool)
    (step : ∀ (i : Nat) (h : i < l.length), p l[i] = true → ∀ P, EvP (fun k => L k ((i : Int) + 1)) P → EvP (fun k => L k i) P)
    (stop : ∀ (i : Nat) (h : i < l.length), p l[i] = false → Ev (fun k => L k i) false)
    (fin : Ev (fun k => L k l.length) b) : Ev (fun k => L k 0) (l.all p && b) := by
  apply EvP.eq
  refine for_evp (L := fun k (_ : Unit) i => L k i) l.length (fun i _ => ∀ x ∈ l.take i, p x = true) ?_ ?_ () (by simp)
  · intro i _ hi hs K
    cases hp : p l[i] with
    | true => exact step i hi hp _ (K () (take_all hi hs hp))
    | false =>
      have e : l.all p = false := by
        rw [List.all_eq_false]
        exact ⟨l[i], List.getElem_mem hi, by simp [hp]⟩
      rw [e]
      exact EvP.of (stop i hi hp) rfl
  · intro _ hs
    have e : l.all p = true := by
      rw [List.all_eq_true]
      simpa using hs
    rw [e]
    exact EvP.of fin rfl
theorem bytes_at_ (s : ByteArray) (i : Nat) (h : i < s.data.toList.length) : bt s (i : Int) = ((s.data.toList[i]).toNat : Int) := by
  have h' : i < s.size := by simpa using h
  unfold bt
  rw [dif_pos (by simpa using h')]
  simp
  rfl
theorem size_len (s : ByteArray) : (s.size : Int) = (s.data.toList.length : Int) := by simp
theorem size_len' (s : ByteArray) : s.size = s.data.toList.length := by simp
end Go.Proofs.Ytmmlhbfkchbpaaa.EvK
end

section
namespace Go.Proofs.Ytmmlhbfkchbpaaa.PBasics
open Go.RowKit Go.Proofs.YtmmlhbfkchbpaaaW.PrintWords Go.Proofs.Ytmmlhbfkchbpaaa.XX Go.Proofs.Ytmmlhbfkchbpaaa.EvK
set_option linter.unusedVariables false
set_option linter.unusedSimpArgs false
def smallB (c : UInt8) : Bool := decide (97 ≤ (c.toNat : Int)) && decide ((c.toNat : Int) ≤ 122)
def digB (c : UInt8) : Bool := decide (48 ≤ (c.toNat : Int)) && decide ((c.toNat : Int) ≤ 57)
def nameB (c : UInt8) : Bool := smallB c || digB c
def nameOk (s : ByteArray) : Bool := match s.data.toList with
  | [] => false
  | c :: l => decide ((s.size : Int) ≤ 10) && smallB c && (c :: l).all nameB
def inR (n a b : Int) : Bool := decide (a ≤ n) && decide (n ≤ b)
theorem within_eq (n a b : Int) : impl_within.f n a b = some (inR n a b) := by
  unfold impl_within.f inR
  by_cases h : n ≥ a
  · rw [if_pos h, decide_eq_true (show a ≤ n from h), Bool.true_and]
  · rw [if_neg h, decide_eq_false (show ¬ a ≤ n from h), Bool.false_and]
theorem in_eq (n a b : Int) : spec_l00In.f n a b = some (inR n a b) := by
  unfold spec_l00In.f inR
  by_cases h : n ≥ a
  · rw [if_pos h, decide_eq_true (show a ≤ n from h), Bool.true_and]
  · rw [if_neg h, decide_eq_false (show ¬ a ≤ n from h), Bool.false_and]
theorem small_eq (c : UInt8) : spec_l01Small.f (c.toNat : Int) = some (smallB c) := by
  unfold spec_l01Small.f smallB
  by_cases h : (c.toNat : Int) ≥ 97
  · rw [if_pos h, decide_eq_true (show (97 : Int) ≤ c.toNat from h), Bool.true_and]
  · rw [if_neg h, decide_eq_false (show ¬ (97 : Int) ≤ c.toNat from h), Bool.false_and]
theorem dig_eq (c : UInt8) : spec_l01Digit.f (c.toNat : Int) = some (digB c) := by
  unfold spec_l01Digit.f digB
  by_cases h : (c.toNat : Int) ≥ 48
  · rw [if_pos h, decide_eq_true (show (48 : Int) ≤ c.toNat from h), Bool.true_and]
  · rw [if_neg h, decide_eq_false (show ¬ (48 : Int) ≤ c.toNat from h), Bool.false_and]
theorem onlyName_ev (s : ByteArray) (h : s.size ≤ 1048576) : Ev (fun k => impl_onlyNameBytes.f k s) (s.data.toList.all nameB) := by
  unfold impl_onlyNameBytes.f
  rw [size_len'] at h
  have := all_ev (L := fun k i => impl_onlyNameBytes.l0 k s (s.size : Int) i) s.data.toList nameB true ?_ ?_ ?_
  · simpa using this
  · intro i hi hp P K
    refine EvP.step (fun k => impl_onlyNameBytes.l0.eq_2 _ _ _ k) ?_
    simp only [size_len] at K
    simp only [size_len, if_pos (show (i : Int) < (s.data.toList.length : Int) by omega), if_pos (show (0 : Int) ≤ (i : Int) by omega), bytes_at_ s i hi, w64 (show -9223372036854775808 ≤ (i : Int) + 1 by omega) (by omega)]
    simp only [nameB, smallB, digB, Bool.or_eq_true, Bool.and_eq_true, decide_eq_true_eq] at hp
    by_cases h1 : ((s.data.toList[i]).toNat : Int) < 97
    · simp only [if_pos h1, if_neg (show ¬ ((s.data.toList[i]).toNat : Int) < 48 by omega), if_neg (show ¬ ((s.data.toList[i]).toNat : Int) > 57 by omega)]
      exact K
    · simp only [if_neg h1, if_neg (show ¬ ((s.data.toList[i]).toNat : Int) > 122 by omega)]
      exact K
  · intro i hi hp
    refine Ev.step (fun k => impl_onlyNameBytes.l0.eq_2 _ _ _ k) ?_
    simp only [size_len, if_pos (show (i : Int) < (s.data.toList.length : Int) by omega), if_pos (show (0 : Int) ≤ (i : Int) by omega), bytes_at_ s i hi, w64 (show -9223372036854775808 ≤ (i : Int) + 1 by omega) (by omega)]
    simp only [nameB, smallB, digB, Bool.or_eq_false_iff, Bool.and_eq_false_iff, decide_eq_false_iff_not] at hp
    by_cases h1 : ((s.data.toList[i]).toNat : Int) < 97
    · by_cases h2 : ((s.data.toList[i]).toNat : Int) < 48
      · simp only [if_pos h1, if_pos h2]; exact Ev.now _
      · simp only [if_pos h1, if_neg h2, if_pos (show ((s.data.toList[i]).toNat : Int) > 57 by omega)]; exact Ev.now _
    · simp only [if_neg h1, if_pos (show ((s.data.toList[i]).toNat : Int) > 122 by omega), if_neg (show ¬ ((s.data.toList[i]).toNat : Int) < 48 by omega), if_pos (show ((s.data.toList[i]).toNat : Int) > 57 by omega)]
      exact Ev.now _
  · refine Ev.step (fun k => impl_onlyNameBytes.l0.eq_2 _ _ _ k) ?_
    simp only [size_len, if_neg (show ¬ (s.data.toList.length : Int) < (s.data.toList.length : Int) by omega)]
    exact Ev.now _
theorem head_at (s : ByteArray) (c : UInt8) (l : List UInt8) (hl : s.data.toList = c :: l) : bt s 0 = (c.toNat : Int) := by
  have h : 0 < s.data.toList.length := by rw [hl]; simp
  have := bytes_at_ s 0 h
  rw [show ((0 : Nat) : Int) = 0 from rfl] at this
  rw [this]
  simp only [hl, List.getElem_cons_zero]
theorem isName_ev (s : ByteArray) (h : s.size ≤ 1048576) : Ev (fun k => impl_IsName.f k s) (nameOk s) := by
  unfold impl_IsName.f nameOk
  cases hl : s.data.toList with
  | nil =>
    have hz : s.size = 0 := by rw [size_len', hl]; rfl
    simp only [hz, Int.natCast_zero, if_pos (show (0 : Int) < 1 by omega)]
    exact Ev.now _
  | cons c l =>
    have hz : s.size = l.length + 1 := by rw [size_len', hl]; rfl
    have ho := onlyName_ev s h
    rw [hl] at ho
    simp only [if_neg (show ¬ (s.size : Int) < 1 by omega), if_pos (show (0 : Int) < (s.size : Int) by omega), head_at s c l hl]
    by_cases h1 : (s.size : Int) > 10
    · simp only [if_pos h1, decide_eq_false (show ¬ (s.size : Int) ≤ 10 by omega), Bool.false_and]
      exact Ev.now _
    · simp only [if_neg h1, decide_eq_true (show (s.size : Int) ≤ 10 by omega), Bool.true_and]
      by_cases h2 : (c.toNat : Int) < 97
      · simp only [if_pos h2, smallB, decide_eq_false (show ¬ (97 : Int) ≤ c.toNat by omega), Bool.false_and]
        exact Ev.now _
      · by_cases h3 : (c.toNat : Int) > 122
        · simp only [if_neg h2, if_pos h3, smallB, decide_eq_false (show ¬ (c.toNat : Int) ≤ 122 by omega), Bool.false_and, Bool.and_false]
          exact Ev.now _
        · simp only [if_neg h2, if_neg h3, smallB, decide_eq_true (show (97 : Int) ≤ c.toNat by omega), decide_eq_true (show (c.toNat : Int) ≤ 122 by omega), Bool.true_and]
          exact Ev.bind ho (Ev.now _)
theorem toList_eq (s : ByteArray) : s.toList = s.data.toList := by
  have := Lib.toList_data s
  first | exact this | exact this.symm
theorem specName_ev (s : ByteArray) (h : s.size ≤ 1048576) : Ev (fun k => spec_l01Name.f k s) (nameOk s) := by
  unfold spec_l01Name.f nameOk
  have hj : Ev (fun k => spec_l01Name.j0 k s true) false := by
    refine Ev.step (fun k => spec_l01Name.j0.eq_2 _ _ k) ?_
    simp only [if_true]
    exact Ev.now _
  cases hl : s.data.toList with
  | nil =>
    simp only [toList_eq, hl, if_true]
    exact hj
  | cons c l =>
    have hz : s.size = l.length + 1 := by rw [size_len', hl]; rfl
    simp only [toList_eq, hl, reduceCtorEq, if_false, if_pos (show (0 : Int) < (s.size : Int) by omega), head_at s c l hl, small_eq, Option.bind_some]
    by_cases h1 : (s.size : Int) > 10
    · simp only [if_pos h1, decide_eq_false (show ¬ (s.size : Int) ≤ 10 by omega), Bool.false_and]
      exact hj
    simp only [if_neg h1, decide_eq_true (show (s.size : Int) ≤ 10 by omega), Bool.true_and]
    cases hs : smallB c with
    | false =>
      simp only [Bool.not_false, Bool.false_and]
      exact hj
    | true =>
      simp only [Bool.not_true, Bool.true_and]
      refine Ev.step (fun k => spec_l01Name.j0.eq_2 _ _ k) ?_
      simp only [Bool.false_eq_true, if_false]
      rw [← hl]
      rw [size_len'] at h
      have := all_ev (L := fun k i => spec_l01Name.l0 k s i) s.data.toList nameB true ?_ ?_ ?_
      · simpa using this
      · intro i hi hp P K
        refine EvP.step (fun k => spec_l01Name.l0.eq_2 _ _ k) ?_
        simp only [size_len, if_pos (show (i : Int) < (s.data.toList.length : Int) by omega), if_pos (show (0 : Int) ≤ (i : Int) by omega), bytes_at_ s i hi, w64 (show -9223372036854775808 ≤ (i : Int) + 1 by omega) (by omega), small_eq, dig_eq, Option.bind_some]
        cases h2 : smallB s.data.toList[i] with
        | true => simp only [if_true]; exact K
        | false =>
          simp only [nameB, h2, Bool.false_or] at hp
          simp only [hp, Bool.false_eq_true, if_false, if_true]
          exact K
      · intro i hi hp
        refine Ev.step (fun k => spec_l01Name.l0.eq_2 _ _ k) ?_
        simp only [nameB, Bool.or_eq_false_iff] at hp
        simp only [size_len, if_pos (show (i : Int) < (s.data.toList.length : Int) by omega), if_pos (show (0 : Int) ≤ (i : Int) by omega), bytes_at_ s i hi, w64 (show -9223372036854775808 ≤ (i : Int) + 1 by omega) (by omega), small_eq, dig_eq, Option.bind_some, hp.1, hp.2, Bool.false_eq_true, if_false]
        exact Ev.now _
      · refine Ev.step (fun k => spec_l01Name.l0.eq_2 _ _ k) ?_
        simp only [size_len, if_neg (show ¬ (s.data.toList.length : Int) < (s.data.toList.length : Int) by omega)]
        exact Ev.now _
end Go.Proofs.Ytmmlhbfkchbpaaa.PBasics
end

section
namespace Go.Proofs.Ytmmlhbfkchbpaaa.EvK
open Go.RowKit Go.Proofs.YtmmlhbfkchbpaaaW.PrintWords
set_option linter.unusedVariables false
theorem all_to {α ρ : Type} {L : Nat → Int → Option ρ} (l : List α) (p : α → Bool) (yes no : ρ)
    (step : ∀ (i : Nat) (h : i < l.length), p l[i] = true → ∀ P, EvP (fun k => L k ((i : Int) + 1)) P → EvP (fun k => L k i) P)
    (stop : ∀ (i : Nat) (h : i < l.length), p l[i] = false → Ev (fun k => L k i) no)
    (fin : l.all p = true → Ev (fun k => L k l.length) yes) : Ev (fun k => L k 0) (if l.all p = true then yes else no) := by
  apply EvP.eq
  refine for_evp (L := fun k (_ : Unit) i => L k i) l.length (fun i _ => ∀ x ∈ l.take i, p x = true) ?_ ?_ () (by simp)
  · intro i _ hi hs K
    cases hp : p l[i] with
    | true => exact step i hi hp _ (K () (take_all hi hs hp))
    | false =>
      have e : l.all p = false := by
        rw [List.all_eq_false]
        exact ⟨l[i], List.getElem_mem hi, by simp [hp]⟩
      rw [e]
      exact EvP.of (stop i hi hp) rfl
  · intro _ hs
    have e : l.all p = true := by
      rw [List.all_eq_true]
      simpa using hs
    rw [e]
    exact EvP.of (fin e) rfl
theorem all_n {ρ : Type} {L : Nat → Int → Option ρ} (n : Nat) (p : Nat → Bool) (yes no : ρ)
    (step : ∀ (i : Nat), i < n → p i = true → ∀ P, EvP (fun k => L k ((i : Int) + 1)) P → EvP (fun k => L k i) P)
    (stop : ∀ (i : Nat), i < n → p i = false → Ev (fun k => L k i) no)
    (fin : Ev (fun k => L k n) yes) : Ev (fun k => L k 0) (if (List.range n).all p = true then yes else no) := by
  have := all_to (L := L) (List.range n) p yes no ?_ ?_ ?_
  · exact this
  · intro i hi hp P K
    simp only [List.length_range, List.getElem_range] at hi hp
    exact step i hi hp P K
  · intro i hi hp
    simp only [List.length_range, List.getElem_range] at hi hp
    exact stop i hi hp
  · intro _
    simpa using fin
end Go.Proofs.Ytmmlhbfkchbpaaa.EvK
end

section
namespace Go.Proofs.Ytmmlhbfkchbpaaa.PDivR
open Go.RowKit Go.Proofs.YtmmlhbfkchbpaaaW.PrintWords Go.Proofs.YtmmlhbfkchbpaaaW.PrintMore Go.Proofs.Ytmmlhbfkchbpaaa.XX Go.Proofs.Ytmmlhbfkchbpaaa.EvK
set_option linter.unusedVariables false
set_option linter.unusedSimpArgs false
def dr (a b : Int) : Int := if 0 ≤ a then (2 * a + b) / (2 * b) else -((b - 2 * a) / (2 * b))
theorem ediv_is {x b k : Int} (hb : 0 < b) (h1 : b * k ≤ x) (h2 : x < b * k + b) : x / b = k := by
  have e : x = (x - b * k) + b * k := by omega
  rw [e, Int.add_mul_ediv_left _ _ (by omega), Int.ediv_eq_zero_of_lt (by omega) (by omega)]
  omega
theorem divRound_eq (a b : Int) (hb : 0 < b) (hb2 : b ≤ 1152921504606846976) (h1 : -2305843009213693951 ≤ a) (h2 : a ≤ 2305843009213693951) : impl_divRound.f a b = some (dr a b) := by
  have two : ∀ x : Int, 2 * b * x = 2 * (b * x) := fun x => Int.mul_assoc 2 b x
  unfold impl_divRound.f dr impl_abs.f
  rw [if_neg (show ¬ b = 0 by omega)]
  simp only [Option.bind_some]
  have eb : mx b (wrap64 (-b)) = b := by rw [w64 (by omega) (by omega)]; unfold mx; rw [if_neg (by omega)]
  rw [eb, decide_eq_false (show ¬ b < 0 by omega)]
  by_cases ha : 0 ≤ a
  · have hq := Int.tdiv_eq_ediv_of_nonneg (b := b) ha
    have hr := Int.tmod_eq_emod_of_nonneg (b := b) ha
    rw [hq, hr, if_pos ha, decide_eq_false (show ¬ a < 0 by omega)]
    have hr0 := Int.emod_nonneg a (show b ≠ 0 by omega)
    have hr1 := Int.emod_lt_of_pos a hb
    have he := Int.mul_ediv_add_emod a b
    have hq0 : 0 ≤ a / b := Int.ediv_nonneg ha (by omega)
    have hqa : a / b ≤ a := Int.ediv_le_self b ha
    generalize a / b = q at *
    generalize a % b = r at *
    have er : mx r (wrap64 (-r)) = r := by rw [w64 (by omega) (by omega)]; unfold mx; rw [if_neg (by omega)]
    rw [er, w64 (show -9223372036854775808 ≤ b - r by omega) (by omega), w64 (show -9223372036854775808 ≤ q by omega) (by omega)]
    by_cases hc : r ≥ b - r
    · rw [if_pos hc, if_pos (by rfl), w64 (by omega) (by omega)]
      congr 1
      have h2_ : b * (q + 1) = b * q + b := by rw [Int.mul_add, Int.mul_one]
      have := two (q + 1)
      rw [h2_] at this
      exact (ediv_is (by omega) (by omega) (by omega)).symm
    · rw [if_neg hc]
      congr 1
      have := two q
      exact (ediv_is (by omega) (by omega) (by omega)).symm
  · obtain ⟨n, hn⟩ : ∃ n, a = -n := ⟨-a, by omega⟩
    subst hn
    have hn0 : 0 ≤ n := by omega
    have hq : Int.tdiv (-n) b = -(n / b) := by rw [Int.neg_tdiv, Int.tdiv_eq_ediv_of_nonneg hn0]
    have hr : Int.tmod (-n) b = -(n % b) := by rw [Int.neg_tmod, Int.tmod_eq_emod_of_nonneg hn0]
    rw [hq, hr, if_neg ha, decide_eq_true (show -n < 0 by omega)]
    have hr0 := Int.emod_nonneg n (show b ≠ 0 by omega)
    have hr1 := Int.emod_lt_of_pos n hb
    have he := Int.mul_ediv_add_emod n b
    have hq0 : 0 ≤ n / b := Int.ediv_nonneg hn0 (by omega)
    have hqa : n / b ≤ n := Int.ediv_le_self b hn0
    generalize n / b = q at *
    generalize n % b = r at *
    have er : mx (-r) (wrap64 (-(-r))) = r := by rw [w64 (by omega) (by omega)]; unfold mx; split <;> omega
    rw [er, w64 (show -9223372036854775808 ≤ b - r by omega) (by omega), w64 (show -9223372036854775808 ≤ -q by omega) (by omega)]
    by_cases hc : r ≥ b - r
    · rw [if_pos hc, if_neg (by decide), w64 (by omega) (by omega)]
      congr 1
      have h2_ : b * (q + 1) = b * q + b := by rw [Int.mul_add, Int.mul_one]
      have := two (q + 1)
      rw [h2_] at this
      rw [ediv_is (k := q + 1) (b := 2 * b) (by omega) (by omega) (by omega)]
      omega
    · rw [if_neg hc]
      congr 1
      have := two q
      rw [ediv_is (k := q) (b := 2 * b) (by omega) (by omega) (by omega)]
theorem div_eq (a b : Int) (hb : 0 < b) (hb2 : b ≤ 1152921504606846976) (h1 : -2305843009213693951 ≤ a) (h2 : a ≤ 2305843009213693951) : spec_l01Div.f a b = some (dr a b) := by
  unfold spec_l01Div.f dr
  rw [if_neg (show ¬ b < 0 by omega)]
  by_cases ha : 0 ≤ a
  · rw [if_neg (show ¬ a < 0 by omega), if_pos ha, w64 (show -9223372036854775808 ≤ 2 * b by omega) (by omega), if_neg (show ¬ 2 * b = 0 by omega), w64 (show -9223372036854775808 ≤ 2 * a by omega) (by omega), w64 (show -9223372036854775808 ≤ 2 * a + b by omega) (by omega), Int.tdiv_eq_ediv_of_nonneg (by omega)]
    have h0 : 0 ≤ (2 * a + b) / (2 * b) := Int.ediv_nonneg (by omega) (by omega)
    have h3 : (2 * a + b) / (2 * b) ≤ 2 * a + b := Int.ediv_le_self _ (by omega)
    rw [w64 (by omega) (by omega)]
  · rw [if_pos (show a < 0 by omega), if_neg ha, w64 (show -9223372036854775808 ≤ 2 * b by omega) (by omega), if_neg (show ¬ 2 * b = 0 by omega), w64 (show -9223372036854775808 ≤ 2 * a by omega) (by omega), w64 (show -9223372036854775808 ≤ b - 2 * a by omega) (by omega), Int.tdiv_eq_ediv_of_nonneg (by omega)]
    have h0 : 0 ≤ (b - 2 * a) / (2 * b) := Int.ediv_nonneg (by omega) (by omega)
    have h3 : (b - 2 * a) / (2 * b) ≤ b - 2 * a := Int.ediv_le_self _ (by omega)
    rw [w64 (show -9223372036854775808 ≤ (b - 2 * a) / (2 * b) by omega) (by omega), w64 (by omega) (by omega)]
end Go.Proofs.Ytmmlhbfkchbpaaa.PDivR
end

section
namespace Go.Proofs.Ytmmlhbfkchbpaaa.PThru
open Go.RowKit Go.Proofs.YtmmlhbfkchbpaaaW.PrintWords Go.Proofs.YtmmlhbfkchbpaaaW.PrintMore Go.Proofs.Ytmmlhbfkchbpaaa.XX Go.Proofs.Ytmmlhbfkchbpaaa.EvK Go.Proofs.Ytmmlhbfkchbpaaa.PBasics
open Go.Proofs.Ytmmlhbfkchbpaaa.PDivR (dr divRound_eq)
set_option linter.unusedVariables false
set_option linter.unusedSimpArgs false
theorem inR_iff {n a b : Int} : inR n a b = true ↔ a ≤ n ∧ n ≤ b := by unfold inR; simp
def pipeOkV (s : ByteArray) (f t l d q : Int) : Bool := nameOk s && (inR f 0 15 && (inR t 0 15 && (!(decide (f = t)) && (inR l 1 10000 && (inR d 20 1000 && inR q 0 5000)))))
theorem nodeV_eq (n : Int) : impl_nodeOk.f n = some (inR n 0 15) := by unfold impl_nodeOk.f; rw [within_eq]; rfl
theorem validPipeV_ev (s : ByteArray) (f t l d q : Int) (h : s.size ≤ 1048576) : Ev (fun k => impl_ValidPipe.f k s f t l d q) (pipeOkV s f t l d q) := by
  unfold impl_ValidPipe.f pipeOkV
  refine Ev.bind (isName_ev s h) ?_
  simp only [nodeV_eq, within_eq, Option.bind_some]
  cases nameOk s <;> simp only [Bool.false_eq_true, if_false, if_true, Bool.false_and, Bool.true_and]
  · exact Ev.now _
  cases inR f 0 15 <;> simp only [Bool.false_eq_true, if_false, if_true, Bool.false_and, Bool.true_and]
  · exact Ev.now _
  cases inR t 0 15 <;> simp only [Bool.false_eq_true, if_false, if_true, Bool.false_and, Bool.true_and]
  · exact Ev.now _
  by_cases hft : f = t
  · simp only [if_pos hft, hft, decide_true, Bool.not_true, Bool.false_and]; exact Ev.now _
  simp only [if_neg hft, hft, decide_false, Bool.not_false, Bool.true_and]
  cases inR l 1 10000 <;> simp only [Bool.false_eq_true, if_false, if_true, Bool.false_and, Bool.true_and]
  · exact Ev.now _
  cases inR d 20 1000 <;> simp only [Bool.false_eq_true, if_false, if_true, Bool.false_and, Bool.true_and]
  · exact Ev.now _
  exact Ev.now _
theorem l03OkV_ev (s : ByteArray) (f t l d q : Int) (h : s.size ≤ 1048576) : Ev (fun k => spec_l03Ok.f k s f t l d q) (pipeOkV s f t l d q) := by
  unfold spec_l03Ok.f pipeOkV
  have hj : ∀ b : Bool, Ev (fun k => spec_l03Ok.j0 k b s f t l d q) (!b && (inR l 1 10000 && (inR d 20 1000 && inR q 0 5000))) := by
    intro b
    refine Ev.step (fun k => spec_l03Ok.j0.eq_2 _ _ _ _ _ _ _ k) ?_
    simp only [in_eq, Option.bind_some]
    cases b <;> simp only [Bool.false_eq_true, if_false, if_true, Bool.false_and, Bool.true_and, Bool.not_false, Bool.not_true]
    · cases inR l 1 10000 <;> simp only [Bool.false_eq_true, if_false, if_true, Bool.false_and, Bool.true_and]
      · exact Ev.now _
      cases inR d 20 1000 <;> simp only [Bool.false_eq_true, if_false, if_true, Bool.false_and, Bool.true_and]
      · exact Ev.now _
      exact Ev.now _
    · exact Ev.now _
  refine Ev.bind (specName_ev s h) ?_
  simp only [in_eq, Option.bind_some]
  cases nameOk s <;> simp only [Bool.false_eq_true, if_false, if_true, Bool.false_and, Bool.true_and]
  · exact hj true
  cases inR f 0 15 <;> simp only [Bool.false_eq_true, if_false, if_true, Bool.false_and, Bool.true_and]
  · exact hj true
  cases inR t 0 15 <;> simp only [Bool.false_eq_true, if_false, if_true, Bool.false_and, Bool.true_and]
  · exact hj true
  exact hj (f == t)
theorem ok_b {s : ByteArray} {f t l d q : Int} (h : pipeOkV s f t l d q = true) : (1 ≤ l ∧ l ≤ 10000) ∧ (20 ≤ d ∧ d ≤ 1000) ∧ (0 ≤ q ∧ q ≤ 5000) := by
  unfold pipeOkV at h
  simp only [Bool.and_eq_true, inR_iff] at h
  exact ⟨h.2.2.2.2.1, h.2.2.2.2.2.1, h.2.2.2.2.2.2⟩
def ab (q : Int) : Int := mx q (wrap64 (-q))
theorem abI_eq (q : Int) : impl_abs.f q = some (ab q) := rfl
theorem abS_eq (q : Int) : spec_l03Abs.f q = some (ab q) := by
  unfold spec_l03Abs.f spec_l00Max.f ab mx
  by_cases h : q > wrap64 (-q)
  · rw [if_pos h, if_neg (show ¬ q < wrap64 (-q) by omega)]; rfl
  · rw [if_neg h]
    by_cases h2 : q < wrap64 (-q)
    · rw [if_pos h2]; rfl
    · rw [if_neg h2, show wrap64 (-q) = q by omega]; rfl
theorem ab_is {q : Int} (h : -9223372036854775807 ≤ q) (h' : q ≤ 9223372036854775807) : ab q = (q.natAbs : Int) := by
  unfold ab mx
  rw [w64 (by omega) (by omega)]
  split <;> omega
def waterOf (l d : Int) : Int := dr (l * d * d * 7854) 10000
theorem water_b {l d : Int} (hl : 1 ≤ l ∧ l ≤ 10000) (hd : 20 ≤ d ∧ d ≤ 1000) : wrap64 ((wrap64 ((wrap64 (l * d)) * d)) * 7854) = l * d * d * 7854 ∧ 3141600 ≤ l * d * d * 7854 ∧ l * d * d * 7854 ≤ 78540000000000 := by
  have h1 : l * d ≤ 10000 * d := Int.mul_le_mul_of_nonneg_right hl.2 (by omega)
  have h0 : 1 * d ≤ l * d := Int.mul_le_mul_of_nonneg_right hl.1 (by omega)
  have h2 : l * d * d ≤ 10000000 * d := Int.mul_le_mul_of_nonneg_right (by omega) (by omega)
  have h3 : 20 * d ≤ l * d * d := Int.mul_le_mul_of_nonneg_right (by omega) (by omega)
  refine ⟨?_, by omega, by omega⟩
  rw [w64 (show -9223372036854775808 ≤ l * d by omega) (by omega), w64 (show -9223372036854775808 ≤ l * d * d by omega) (by omega), w64 (by omega) (by omega)]
theorem waterI {l d : Int} (hl : 1 ≤ l ∧ l ≤ 10000) (hd : 20 ≤ d ∧ d ≤ 1000) (s : ByteArray) (f t q : Int) : impl_Pipe_water.f s f t l d q = some (waterOf l d) := by
  obtain ⟨e, h0, h1⟩ := water_b hl hd
  unfold impl_Pipe_water.f waterOf
  rw [e, divRound_eq _ _ (by omega) (by omega) (by omega) (by omega)]
  rfl
theorem waterS {l d : Int} (hl : 1 ≤ l ∧ l ≤ 10000) (hd : 20 ≤ d ∧ d ≤ 1000) (s : ByteArray) (f t q : Int) : spec_l03Water.f s f t l d q = some (waterOf l d) := by
  obtain ⟨e, h0, h1⟩ := water_b hl hd
  unfold spec_l03Water.f waterOf
  rw [e, PDivR.div_eq _ _ (by omega) (by omega) (by omega) (by omega)]
  rfl
theorem water_pos {l d : Int} (hl : 1 ≤ l ∧ l ≤ 10000) (hd : 20 ≤ d ∧ d ≤ 1000) : 1 ≤ waterOf l d ∧ waterOf l d ≤ 1000000000000000 := by
  obtain ⟨_, h0, h1⟩ := water_b hl hd
  unfold waterOf dr
  rw [if_pos (by omega)]
  omega
def dly (l d q : Int) : Int := wrap64 (Int.tdiv (wrap64 ((wrap64 (waterOf l d + ab q)) - 1)) (ab q))
theorem dly_pos {l d q : Int} (hl : 1 ≤ l ∧ l ≤ 10000) (hd : 20 ≤ d ∧ d ≤ 1000) (hq : -100000 ≤ q ∧ q ≤ 100000) (h0 : q ≠ 0) : 1 ≤ dly l d q := by
  obtain ⟨g0, g1⟩ := water_pos hl hd
  have ha : ab q = (q.natAbs : Int) := ab_is (by omega) (by omega)
  have hb : 1 ≤ ab q ∧ ab q ≤ 100000 := by rw [ha]; omega
  unfold dly
  rw [w64 (show -9223372036854775808 ≤ waterOf l d + ab q by omega) (by omega), w64 (show -9223372036854775808 ≤ waterOf l d + ab q - 1 by omega) (by omega)]
  rw [Int.tdiv_eq_ediv_of_nonneg (by omega)]
  have h1 : 1 ≤ (waterOf l d + ab q - 1) / ab q := by
    rw [Int.le_ediv_iff_mul_le (by omega)]
    omega
  have h2 : (waterOf l d + ab q - 1) / ab q ≤ waterOf l d + ab q - 1 := Int.ediv_le_self _ (by omega)
  rw [w64 (by omega) (by omega)]
  exact h1
theorem ab_ne {q : Int} (hq : -100000 ≤ q ∧ q ≤ 100000) (h : q ≠ 0) : ab q ≠ 0 := by rw [ab_is (by omega) (by omega)]; omega
theorem delayI {l d q : Int} (hl : 1 ≤ l ∧ l ≤ 10000) (hd : 20 ≤ d ∧ d ≤ 1000) (hq : -100000 ≤ q ∧ q ≤ 100000) (h0 : q ≠ 0) (s : ByteArray) (f t w : Int) : impl_Pipe_delay.f s f t l d w q = some (dly l d q) := by
  unfold impl_Pipe_delay.f impl_divUp.f
  rw [waterI hl hd, abI_eq]
  simp only [Option.bind_some, if_neg (ab_ne hq h0)]
  rfl
theorem delayS {l d q : Int} (hl : 1 ≤ l ∧ l ≤ 10000) (hd : 20 ≤ d ∧ d ≤ 1000) (hq : -100000 ≤ q ∧ q ≤ 100000) (h0 : q ≠ 0) (s : ByteArray) (f t w : Int) : spec_l03Delay.f s f t l d w q = some (dly l d q) := by
  unfold spec_l03Delay.f
  rw [waterS hl hd, abS_eq]
  simp only [Option.bind_some, if_neg (ab_ne hq h0)]
  rfl
def lossOf (l w x g : Int) : Int := dr (w * l * (x - g)) 100000
def endOf (l w q g x : Int) : Int := if x ≥ g then mx (wrap64 (x - dr (100000 * lossOf l w x g) (4186 * ab q))) g else mn (wrap64 (x - dr (100000 * lossOf l w x g) (4186 * ab q))) g
theorem dr_abs {a b : Int} (hb : 0 < b) : -(2 * a.natAbs + b) ≤ dr a b ∧ dr a b ≤ 2 * a.natAbs + b := by
  unfold dr
  split
  · have h1 := Int.ediv_nonneg (show 0 ≤ 2 * a + b by omega) (show 0 ≤ 2 * b by omega)
    have h2 := Int.ediv_le_self (a := 2 * a + b) (2 * b) (by omega)
    omega
  · have h1 := Int.ediv_nonneg (show 0 ≤ b - 2 * a by omega) (show 0 ≤ 2 * b by omega)
    have h2 := Int.ediv_le_self (a := b - 2 * a) (2 * b) (by omega)
    omega
theorem mulB {x y : Int} {A B : Nat} (h1 : x.natAbs ≤ A) (h2 : y.natAbs ≤ B) : (x * y).natAbs ≤ A * B := by
  rw [Int.natAbs_mul]
  exact Nat.mul_le_mul h1 h2
theorem loss_b {l w x g : Int} (hl : 1 ≤ l ∧ l ≤ 10000) (hw : 0 ≤ w ∧ w ≤ 5000) (hx : -5000 ≤ x ∧ x ≤ 20000) (hg : -5000 ≤ g ∧ g ≤ 20000) :
    wrap64 ((wrap64 (w * l)) * (wrap64 (x - g))) = w * l * (x - g) ∧ (w * l * (x - g)).natAbs ≤ 1250000000000 := by
  have h1 : (w * l).natAbs ≤ 5000 * 10000 := mulB (by omega) (by omega)
  have h2 : (w * l * (x - g)).natAbs ≤ 5000 * 10000 * 25000 := mulB h1 (by omega)
  refine ⟨?_, by omega⟩
  rw [w64 (show -9223372036854775808 ≤ w * l by omega) (by omega), w64 (show -9223372036854775808 ≤ x - g by omega) (by omega), w64 (by omega) (by omega)]
theorem endI {l d w q x g : Int} (hl : 1 ≤ l ∧ l ≤ 10000) (hw : 0 ≤ w ∧ w ≤ 5000) (hq : -100000 ≤ q ∧ q ≤ 100000) (h0 : q ≠ 0) (hx : -5000 ≤ x ∧ x ≤ 20000) (hg : -5000 ≤ g ∧ g ≤ 20000) (s : ByteArray) (f t : Int) : impl_Pipe_endTemperature.f s f t l d w q x g = some (endOf l w q g x) := by
  obtain ⟨e, hb⟩ := loss_b hl hw hx hg
  have ha : 1 ≤ ab q ∧ ab q ≤ 100000 := by rw [ab_is (by omega) (by omega)]; omega
  have hd := dr_abs (a := w * l * (x - g)) (b := 100000) (by omega)
  unfold impl_Pipe_endTemperature.f impl_Pipe_loss.f endOf
  rw [if_neg h0, e, divRound_eq _ _ (by omega) (by omega) (by omega) (by omega), abI_eq]
  simp only [Option.bind_some]
  rw [w64 (show -9223372036854775808 ≤ 100000 * dr (w * l * (x - g)) 100000 by omega) (by omega), w64 (show -9223372036854775808 ≤ 4186 * ab q by omega) (by omega), divRound_eq _ _ (by omega) (by omega) (by omega) (by omega)]
  simp only [Option.bind_some]
  unfold lossOf
  split <;> rfl
theorem endS {l d w q x g : Int} (hl : 1 ≤ l ∧ l ≤ 10000) (hw : 0 ≤ w ∧ w ≤ 5000) (hq : -100000 ≤ q ∧ q ≤ 100000) (h0 : q ≠ 0) (hx : -5000 ≤ x ∧ x ≤ 20000) (hg : -5000 ≤ g ∧ g ≤ 20000) (s : ByteArray) (f t : Int) : spec_l03End.f s f t l d w q x g = some (endOf l w q g x) := by
  obtain ⟨e, hb⟩ := loss_b hl hw hx hg
  have ha : 1 ≤ ab q ∧ ab q ≤ 100000 := by rw [ab_is (by omega) (by omega)]; omega
  have hd := dr_abs (a := w * l * (x - g)) (b := 100000) (by omega)
  unfold spec_l03End.f spec_l03Loss.f endOf
  rw [e, PDivR.div_eq _ _ (by omega) (by omega) (by omega) (by omega), abS_eq]
  simp only [Option.bind_some]
  rw [w64 (show -9223372036854775808 ≤ dr (w * l * (x - g)) 100000 * 100000 by omega) (by omega), w64 (show -9223372036854775808 ≤ ab q * 4186 by omega) (by omega), PDivR.div_eq _ _ (by omega) (by omega) (by omega) (by omega)]
  simp only [Option.bind_some]
  unfold lossOf
  rw [show dr (w * l * (x - g)) 100000 * 100000 = 100000 * dr (w * l * (x - g)) 100000 by omega, show ab q * 4186 = 4186 * ab q by omega]
  generalize wrap64 (x - dr (100000 * dr (w * l * (x - g)) 100000) (4186 * ab q)) = y
  unfold spec_l00Max.f spec_l00Min.f mx mn
  by_cases hxg : x ≥ g
  · simp only [if_pos hxg]
    split <;> rfl
  · simp only [if_neg hxg]
    split <;> rfl
def gt (l : List S49) (i : Nat) : S49 := l.getD i z49
theorem rdg (l : List S49) (i : Nat) : rd_T49 l (i : Int) = gt l i := rfl
def timeB (x : Int) : Bool := inR x 0 1000000
def degB (x : Int) : Bool := inR x (-5000) 20000
def stepB (l : List S49) (i : Nat) : Bool := timeB (gt l i).f0 && (degB (gt l i).f1 && (if i = 0 then decide ((gt l i).f0 = 0) else decide ((gt l (i - 1)).f0 < (gt l i).f0)))
def waveB (l : List S49) : Bool := (List.range l.length).all (stepB l) && inR (l.length : Int) 1 24
theorem timeI (x : Int) : impl_timeOk.f x = some (timeB x) := by unfold impl_timeOk.f; rw [within_eq]; rfl
theorem timeS (x : Int) : spec_l09Time.f x = some (timeB x) := by unfold spec_l09Time.f; rw [in_eq]; rfl
theorem degI (x : Int) : impl_degreesOk.f x = some (degB x) := by unfold impl_degreesOk.f; rw [within_eq]; rfl
theorem degS (x : Int) : spec_l03Degrees.f x = some (degB x) := by unfold spec_l03Degrees.f; rw [in_eq]; rfl
theorem specWave_ev (l : List S49) (hl : l.length ≤ 1048576) : Ev (fun k => spec_l09Ok.f k l) (waveB l) := by
  unfold spec_l09Ok.f waveB
  have hj : ∀ (i : Nat) (b : Bool), i < l.length → ∀ P, (b = false → EvP (fun k => spec_l09Ok.l0 k l ((i : Int) + 1)) P) → (b = true → P false) → EvP (fun k => spec_l09Ok.j1 k l i b) P := by
    intro i b hi P h1 h2
    refine EvP.step (fun k => spec_l09Ok.j1.eq_2 _ _ _ k) ?_
    cases b with
    | true => exact EvP.now (h2 rfl)
    | false =>
      simp only [Bool.false_eq_true, if_false, w64 (show -9223372036854775808 ≤ (i : Int) + 1 by omega) (by omega)]
      exact h1 rfl
  have body : ∀ (i : Nat), i < l.length → ∀ P, (stepB l i = true → EvP (fun k => spec_l09Ok.l0 k l ((i : Int) + 1)) P) → (stepB l i = false → P false) → EvP (fun k => spec_l09Ok.l0 k l i) P := by
    intro i hi P K1 K2
    refine EvP.step (fun k => spec_l09Ok.l0.eq_2 _ _ k) ?_
    simp only [if_pos (show (i : Int) < (l.length : Int) by omega), if_pos (show (0 : Int) ≤ (i : Int) by omega), rdg, timeS, degS, Option.bind_some]
    unfold stepB at K1 K2
    cases h1 : timeB (gt l i).f0 with
    | false =>
      simp only [h1, Bool.false_eq_true, if_false, Bool.false_and] at K2 ⊢
      exact hj i true hi P (fun h => by cases h) (fun _ => K2 trivial)
    | true =>
      simp only [h1, if_true, Bool.true_and] at K1 K2 ⊢
      cases h2 : degB (gt l i).f1 with
      | false =>
        simp only [h2, Bool.false_eq_true, if_false, Bool.false_and] at K2 ⊢
        exact hj i true hi P (fun h => by cases h) (fun _ => K2 trivial)
      | true =>
        simp only [h2, if_true, Bool.true_and] at K1 K2 ⊢
        by_cases hz : i = 0
        · subst hz
          simp only [show ((0 : Nat) : Int) = 0 from rfl, if_true, eq_self_iff_true, gt_iff_lt, Int.lt_irrefl, if_false] at K1 K2 ⊢
          by_cases hf : (gt l 0).f0 = 0
          · simp only [hf, if_true, decide_true] at K1 ⊢
            exact hj 0 false hi P (fun _ => K1 trivial) (fun h => by cases h)
          · simp only [if_neg hf, hf, decide_false] at K2 ⊢
            exact hj 0 true hi P (fun h => by cases h) (fun _ => K2 trivial)
        · have wd : wrap64 ((i : Int) - 1) = ((i - 1 : Nat) : Int) := by rw [w64 (by omega) (by omega)]; omega
          simp only [if_neg hz, if_neg (show ¬ (i : Int) = 0 by omega), if_pos (show (i : Int) > 0 by omega), wd, if_pos (show (0 : Int) ≤ ((i - 1 : Nat) : Int) by omega), if_pos (show ((i - 1 : Nat) : Int) < (l.length : Int) by omega), rdg] at K1 K2 ⊢
          by_cases hf : (gt l (i - 1)).f0 < (gt l i).f0
          · rw [decide_eq_false (show ¬ (gt l (i - 1)).f0 ≥ (gt l i).f0 by omega)]
            exact hj i false hi P (fun _ => K1 (decide_eq_true hf)) (fun h => by cases h)
          · rw [decide_eq_true (show (gt l (i - 1)).f0 ≥ (gt l i).f0 by omega)]
            exact hj i true hi P (fun h => by cases h) (fun _ => K2 (decide_eq_false hf))
  have := all_n (L := fun k i => spec_l09Ok.l0 k l i) l.length (stepB l) (inR (l.length : Int) 1 24) false ?_ ?_ ?_
  · cases ha : (List.range l.length).all (stepB l) with
    | true => rw [ha] at this; simpa using this
    | false => rw [ha] at this; simpa using this
  · intro i hi hp P K
    exact body i hi P (fun _ => K) (fun h => by rw [hp] at h; cases h)
  · intro i hi hp
    exact EvP.eq (body i hi _ (fun h => by rw [hp] at h; cases h) (fun _ => rfl))
  · refine Ev.step (fun k => spec_l09Ok.l0.eq_2 _ _ k) ?_
    simp only [if_neg (show ¬ (l.length : Int) < (l.length : Int) by omega), in_eq, Option.bind_some]
    exact Ev.now _
theorem implWave_ev (l : List S49) (hl : l.length ≤ 1048576) : Ev (fun k => impl_ValidWave.f k l) (waveB l) := by
  unfold impl_ValidWave.f
  have bad : waveB l = false → Ev (fun k => impl_ValidWave.j0 k l true) (waveB l) := by
    intro e
    rw [e]
    refine Ev.step (fun k => impl_ValidWave.j0.eq_2 _ _ k) ?_
    simp only [if_true]
    exact Ev.now _
  by_cases h1 : (l.length : Int) < 1
  · simp only [if_pos h1]
    refine bad ?_
    unfold waveB inR
    rw [decide_eq_false (show ¬ 1 ≤ (l.length : Int) by omega)]
    simp
  simp only [if_neg h1]
  by_cases h2 : (l.length : Int) > 24
  · simp only [if_pos h2]
    refine bad ?_
    unfold waveB inR
    rw [decide_eq_false (show ¬ (l.length : Int) ≤ 24 by omega)]
    simp
  simp only [if_neg h2, if_pos (show 0 < (l.length : Int) by omega)]
  rw [show rd_T49 l 0 = gt l 0 from rfl]
  by_cases h3 : (gt l 0).f0 = 0
  · rw [h3, bne_self_eq_false]
    refine Ev.step (fun k => impl_ValidWave.j0.eq_2 _ _ k) ?_
    simp only [Bool.false_eq_true, if_false]
    have ew : waveB l = if (List.range l.length).all (stepB l) = true then true else false := by
      unfold waveB
      rw [show inR (l.length : Int) 1 24 = true from inR_iff.2 ⟨by omega, by omega⟩]
      cases (List.range l.length).all (stepB l) <;> rfl
    rw [ew]
    have body : ∀ (i : Nat), i < l.length → ∀ P, (stepB l i = true → EvP (fun k => impl_ValidWave.l0 k l l (l.length : Int) ((i : Int) + 1)) P) → (stepB l i = false → P false) → EvP (fun k => impl_ValidWave.l0 k l l (l.length : Int) i) P := by
      intro i hi P K1 K2
      refine EvP.step (fun k => impl_ValidWave.l0.eq_2 _ _ _ _ k) ?_
      simp only [if_pos (show (i : Int) < (l.length : Int) by omega), if_pos (show (0 : Int) ≤ (i : Int) by omega), rdg, timeI, degI, Option.bind_some]
      unfold stepB at K1 K2
      cases h1 : timeB (gt l i).f0 with
      | false =>
        simp only [h1, Bool.false_eq_true, if_false, Bool.false_and] at K2 ⊢
        exact EvP.now (K2 trivial)
      | true =>
        simp only [h1, if_true, Bool.true_and] at K1 K2 ⊢
        cases h2 : degB (gt l i).f1 with
        | false =>
          simp only [h2, Bool.false_eq_true, if_false, Bool.false_and] at K2 ⊢
          exact EvP.now (K2 trivial)
        | true =>
          simp only [h2, if_true, Bool.true_and] at K1 K2 ⊢
          by_cases hz : i = 0
          · subst hz
            simp only [if_true, h3, decide_true, if_neg (show ¬ ((0 : Nat) : Int) > 0 by omega), w64 (show -9223372036854775808 ≤ ((0 : Nat) : Int) + 1 by omega) (by omega)] at K1 ⊢
            exact K1 trivial
          · have wd : wrap64 ((i : Int) - 1) = ((i - 1 : Nat) : Int) := by rw [w64 (by omega) (by omega)]; omega
            simp only [if_neg hz, if_pos (show (i : Int) > 0 by omega), wd, if_pos (show (0 : Int) ≤ ((i - 1 : Nat) : Int) by omega), if_pos (show ((i - 1 : Nat) : Int) < (l.length : Int) by omega), rdg, w64 (show -9223372036854775808 ≤ (i : Int) + 1 by omega) (by omega)] at K1 K2 ⊢
            by_cases hf : (gt l (i - 1)).f0 < (gt l i).f0
            · simp only [if_neg (show ¬ (gt l i).f0 ≤ (gt l (i - 1)).f0 by omega)]
              exact K1 (decide_eq_true hf)
            · simp only [if_pos (show (gt l i).f0 ≤ (gt l (i - 1)).f0 by omega)]
              exact EvP.now (K2 (decide_eq_false hf))
    refine all_n (L := fun k i => impl_ValidWave.l0 k l l (l.length : Int) i) l.length (stepB l) true false ?_ ?_ ?_
    · intro i hi hp P K
      exact body i hi P (fun _ => K) (fun h => by rw [hp] at h; cases h)
    · intro i hi hp
      exact EvP.eq (body i hi _ (fun h => by rw [hp] at h; cases h) (fun _ => rfl))
    · refine Ev.step (fun k => impl_ValidWave.l0.eq_2 _ _ _ _ k) ?_
      simp only [if_neg (show ¬ (l.length : Int) < (l.length : Int) by omega)]
      exact Ev.now _
  · rw [show ((gt l 0).f0 != 0) = true from bne_iff_ne.2 h3]
    refine bad ?_
    have hs : stepB l 0 = false := by
      unfold stepB
      rw [if_pos rfl, decide_eq_false h3]
      simp
    unfold waveB
    rw [show (List.range l.length).all (stepB l) = false from by
      rw [List.all_eq_false]
      exact ⟨0, List.mem_range.2 (by omega), by simp [hs]⟩]
    rfl
end Go.Proofs.Ytmmlhbfkchbpaaa.PThru
end

section
namespace Go.Proofs.Ytmmlhbfkchbpaaa.PThru2
open Go.RowKit Go.Proofs.YtmmlhbfkchbpaaaW.PrintWords Go.Proofs.YtmmlhbfkchbpaaaW.PrintMore Go.Proofs.Ytmmlhbfkchbpaaa.XX Go.Proofs.Ytmmlhbfkchbpaaa.EvK Go.Proofs.Ytmmlhbfkchbpaaa.PBasics Go.Proofs.Ytmmlhbfkchbpaaa.PThru
set_option linter.unusedVariables false
set_option linter.unusedSimpArgs false
theorem gt_at (l : List S49) (i : Nat) (h : i < l.length) : gt l i = l[i] := by
  unfold gt
  simp [List.getD_eq_getElem?_getD, List.getElem?_eq_getElem h]
theorem gt_drop (l : List S49) (a j : Nat) : gt (l.drop a) j = gt l (a + j) := by
  unfold gt
  simp [List.getD_eq_getElem?_getD, List.getElem?_drop]
theorem take_next {α : Type} (l : List α) (i : Nat) (h : i < l.length) : l.take (i + 1) = l.take i ++ [l[i]] := List.take_succ_eq_append_getElem h
def E (l w q g : Int) (s : S49) : S49 := ⟨s.f0, endOf l w q g s.f1⟩
def D (d : Int) (s : S49) : S49 := ⟨wrap64 (s.f0 + d), s.f1⟩
theorem set_map {F : S49 → S49} (l : List S49) (i : Nat) (h : i < l.length) : ((l.take i).map F ++ l.drop i).set i (F l[i]) = (l.take (i + 1)).map F ++ l.drop (i + 1) := by
  rw [List.set_append_right _ _ (by simp; omega)]
  have e : i - ((l.take i).map F).length = 0 := by simp; omega
  rw [e, List.drop_eq_getElem_cons h, List.set_cons_zero, take_next l i h, List.map_append]
  simp
section
variable {l d w q g : Int} (hl : 1 ≤ l ∧ l ≤ 10000) (hw : 0 ≤ w ∧ w ≤ 5000) (hq : -100000 ≤ q ∧ q ≤ 100000) (h0 : q ≠ 0) (hg : -5000 ≤ g ∧ g ≤ 20000) (s : ByteArray) (f t : Int)
include hl hw hq h0 hg
theorem cool_ev (xs : List S49) (hx : ∀ x ∈ xs, -5000 ≤ x.f1 ∧ x.f1 ≤ 20000) (hn : xs.length ≤ 1048576) : Ev (fun k => impl_ThroughPipe.l0 s f t l d w q g k xs 0) (xs.map (E l w q g)) := by
  apply EvP.eq
  refine for_evp (L := fun k (x : List S49) i => impl_ThroughPipe.l0 s f t l d w q g k x i) xs.length (fun i x => x = (xs.take i).map (E l w q g) ++ xs.drop i) ?_ ?_ xs (by simp)
  · rintro i x hi rfl K
    have hlen : ((xs.take i).map (E l w q g) ++ xs.drop i).length = xs.length := by simp; omega
    have hr : rd_T49 ((xs.take i).map (E l w q g) ++ xs.drop i) (i : Int) = xs[i] := by
      rw [rdg, gt_at _ _ (by omega), List.getElem_append_right (by simp; omega)]
      simp only [List.length_map, List.length_take, List.getElem_drop]
      congr 1
      omega
    refine EvP.step (fun k => impl_ThroughPipe.l0.eq_2 s f t l d w q g _ _ k) ?_
    simp only [hlen, hr, if_pos (show (i : Int) < (xs.length : Int) by omega), if_pos (show (0 : Int) ≤ (i : Int) by omega), endI hl hw hq h0 (hx _ (List.getElem_mem hi)) hg s f t, Option.bind_some, w64 (show -9223372036854775808 ≤ (i : Int) + 1 by omega) (by omega), Int.toNat_natCast]
    exact K _ (set_map (F := E l w q g) xs i hi)
  · rintro x rfl
    refine EvP.step (fun k => impl_ThroughPipe.l0.eq_2 s f t l d w q g _ _ k) ?_
    have hlen : ((xs.take xs.length).map (E l w q g) ++ xs.drop xs.length).length = xs.length := by simp
    simp only [hlen, if_neg (show ¬ (xs.length : Int) < (xs.length : Int) by omega)]
    refine EvP.now ?_
    simp
end
theorem delayed_ev (xs : List S49) (d b : Int) (hd : d ≠ 0) (hn : xs.length ≤ 1048576) : Ev (fun k => impl_delayed.f k xs d b) (⟨0, b⟩ :: xs.map (D d)) := by
  unfold impl_delayed.f
  simp only [if_neg hd]
  apply EvP.eq
  refine for_evp (L := fun k (x : List S49) i => impl_delayed.l0 k d x xs (xs.length : Int) i) xs.length (fun i x => x = ⟨0, b⟩ :: (xs.take i).map (D d)) ?_ ?_ _ (by simp)
  · rintro i x hi rfl K
    have hlen : ((⟨0, b⟩ : S49) :: (xs.take i).map (D d)).length ≤ 1048577 := by simp; omega
    refine EvP.step (fun k => impl_delayed.l0.eq_2 _ _ _ _ _ k) ?_
    simp only [rdg, if_pos (show (i : Int) < (xs.length : Int) by omega), if_pos (show (0 : Int) ≤ (i : Int) by omega), if_pos (show ((⟨0, b⟩ : S49) :: (xs.take i).map (D d)).length < 8796093022208 by omega), w64 (show -9223372036854775808 ≤ (i : Int) + 1 by omega) (by omega)]
    refine K _ ?_
    rw [take_next xs i hi, List.map_append, gt_at xs i hi]
    simp [D]
  · rintro x rfl
    refine EvP.step (fun k => impl_delayed.l0.eq_2 _ _ _ _ _ k) ?_
    simp only [if_neg (show ¬ (xs.length : Int) < (xs.length : Int) by omega)]
    refine EvP.now ?_
    rw [List.take_length]
def keepAt (l : List S49) (i : Nat) : Bool := decide (i = 0) || !((gt l i).f1 == (gt l (i - 1)).f1)
def compN (l : List S49) : Nat → List S49
  | 0 => []
  | n + 1 => if keepAt l n = true then compN l n ++ [gt l n] else compN l n
theorem compN_len (l : List S49) : ∀ n, (compN l n).length ≤ n
  | 0 => by simp [compN]
  | n + 1 => by
    have := compN_len l n
    unfold compN
    split
    · simp; omega
    · omega
theorem compN_last (l : List S49) : ∀ n, 1 ≤ (compN l (n + 1)).length ∧ (gt (compN l (n + 1)) ((compN l (n + 1)).length - 1)).f1 = (gt l n).f1
  | 0 => by simp [compN, keepAt, gt]
  | n + 1 => by
    obtain ⟨h1, h2⟩ := compN_last l n
    rw [show compN l (n + 1 + 1) = if keepAt l (n + 1) = true then compN l (n + 1) ++ [gt l (n + 1)] else compN l (n + 1) from rfl]
    by_cases hk : keepAt l (n + 1) = true
    · rw [if_pos hk]
      refine ⟨by simp, ?_⟩
      rw [gt_at _ _ (by simp)]
      simp
    · rw [if_neg hk]
      refine ⟨h1, ?_⟩
      rw [h2]
      have : (gt l (n + 1)).f1 = (gt l n).f1 := by
        simpa [keepAt] using hk
      exact this.symm
theorem compN_take (l : List S49) : ∀ n, n ≤ l.length → (∀ i, i < n → keepAt l i = true) → compN l n = l.take n
  | 0, _, _ => by simp [compN]
  | n + 1, h, hk => by
    rw [show compN l (n + 1) = if keepAt l n = true then compN l n ++ [gt l n] else compN l n from rfl, if_pos (hk n (by omega)), compN_take l n (by omega) (fun i hi => hk i (by omega)), take_next l n (by omega), gt_at l n (by omega)]
theorem trim_ev (l : List S49) (hn : l.length ≤ 1048577) : Ev (fun k => spec_l09Trim.f k l) (compN l l.length) := by
  unfold spec_l09Trim.f
  apply EvP.eq
  refine for_evp (L := fun k (x : List S49) i => spec_l09Trim.l0 k l x i) l.length (fun i x => x = compN l i) ?_ ?_ [] rfl
  · rintro i x hi rfl K
    have hlen := compN_len l i
    have hs : compN l (i + 1) = if keepAt l i = true then compN l i ++ [gt l i] else compN l i := rfl
    refine EvP.step (fun k => spec_l09Trim.l0.eq_2 _ _ _ k) ?_
    simp only [rdg, if_pos (show (i : Int) < (l.length : Int) by omega), if_pos (show (0 : Int) ≤ (i : Int) by omega), if_pos (show (compN l i).length < 8796093022208 by omega), w64 (show -9223372036854775808 ≤ (i : Int) + 1 by omega) (by omega)]
    cases i with
    | zero =>
      simp only [if_pos (show ((compN l 0).length : Int) = 0 by simp [compN])]
      refine K _ ?_
      rw [hs, if_pos (by simp [keepAt])]
    | succ n =>
      obtain ⟨h1, h2⟩ := compN_last l n
      have wd : wrap64 (((compN l (n + 1)).length : Int) - 1) = (((compN l (n + 1)).length - 1 : Nat) : Int) := by rw [w64 (by omega) (by omega)]; omega
      simp only [if_neg (show ¬ ((compN l (n + 1)).length : Int) = 0 by omega), wd, if_pos (show (0 : Int) ≤ (((compN l (n + 1)).length - 1 : Nat) : Int) by omega), if_pos (show (((compN l (n + 1)).length - 1 : Nat) : Int) < ((compN l (n + 1)).length : Int) by omega), rdg, h2]
      by_cases hk : (gt l n).f1 = (gt l (n + 1)).f1
      · simp only [if_pos hk]
        refine K _ ?_
        rw [hs, if_neg (by simp [keepAt, hk])]
      · simp only [if_neg hk]
        refine K _ ?_
        rw [hs, if_pos (by simp [keepAt]; exact fun e => hk e.symm)]
  · rintro x rfl
    refine EvP.step (fun k => spec_l09Trim.l0.eq_2 _ _ _ k) ?_
    simp only [if_neg (show ¬ (l.length : Int) < (l.length : Int) by omega)]
    exact EvP.now rfl
theorem comp1_ev (l : List S49) (a : Nat) (ha : 1 ≤ a) (hal : a ≤ l.length) (hn : l.length ≤ 1048577) : ∀ (e x7 : Nat) (x0 : List S49) (b : Nat), x7 + e = (l.drop a).length → 1 ≤ x7 → x0.length = l.length → x0.take b = compN l (a + x7) → b = (compN l (a + x7)).length →
    Ev (fun k => slices_CompactFunc_StepS.l1 k x0 b (l.drop a) x7) (compN l l.length) := by
  intro e
  induction e with
  | zero =>
    intro x7 x0 b hx h1 h2 h3 h4
    have hd : (l.drop a).length = l.length - a := List.length_drop
    have hb := compN_len l (a + x7)
    have e1 : a + x7 = l.length := by omega
    refine Ev.step (fun k => slices_CompactFunc_StepS.l1.eq_2 _ _ _ _ k) ?_
    simp only [if_neg (show ¬ (x7 : Int) < ((l.drop a).length : Int) by omega), if_pos (show (0 : Int) ≤ (b : Int) by omega), if_pos (show (b : Int) ≤ (x0.length : Int) by omega), Int.toNat_natCast]
    rw [show (x0.take b ++ List.replicate (x0.length - b) z49).take b = x0.take b from by rw [List.take_append_of_le_length (by simp; omega), List.take_take, Nat.min_self], h3, e1]
    exact Ev.now _
  | succ e ih =>
    intro x7 x0 b hx h1 h2 h3 h4
    have hd : (l.drop a).length = l.length - a := List.length_drop
    have hb := compN_len l (a + x7)
    have wd : wrap64 ((x7 : Int) - 1) = ((x7 - 1 : Nat) : Int) := by rw [w64 (by omega) (by omega)]; omega
    have hs : compN l (a + x7 + 1) = if keepAt l (a + x7) = true then compN l (a + x7) ++ [gt l (a + x7)] else compN l (a + x7) := rfl
    refine Ev.step (fun k => slices_CompactFunc_StepS.l1.eq_2 _ _ _ _ k) ?_
    unfold impl_trimmedWave_c1.f
    simp only [if_pos (show (x7 : Int) < ((l.drop a).length : Int) by omega), if_pos (show (0 : Int) ≤ (x7 : Int) by omega), wd, if_pos (show (0 : Int) ≤ ((x7 - 1 : Nat) : Int) by omega), if_pos (show ((x7 - 1 : Nat) : Int) < ((l.drop a).length : Int) by omega), rdg, gt_drop, Option.bind_some, if_pos (show (0 : Int) ≤ (b : Int) by omega), if_pos (show (b : Int) < (x0.length : Int) by omega), Int.toNat_natCast, w64 (show -9223372036854775808 ≤ (x7 : Int) + 1 by omega) (by omega), w64 (show -9223372036854775808 ≤ (b : Int) + 1 by omega) (by omega)]
    rw [show a + (x7 - 1) = a + x7 - 1 by omega]
    by_cases hk : ((gt l (a + x7)).f1 == (gt l (a + x7 - 1)).f1) = true
    · simp only [hk, if_true]
      have hkp : keepAt l (a + x7) = false := by
        unfold keepAt
        rw [hk, decide_eq_false (by omega)]
        rfl
      rw [hkp] at hs
      simp only [Bool.false_eq_true, if_false] at hs
      exact ih (x7 + 1) x0 b (by omega) (by omega) h2 (by rw [← Nat.add_assoc, hs]; exact h3) (by rw [← Nat.add_assoc, hs]; exact h4)
    · simp only [if_neg hk]
      have hkp : keepAt l (a + x7) = true := by
        unfold keepAt
        rw [Bool.eq_false_iff.2 hk]
        simp
      rw [hkp] at hs
      simp only [if_true] at hs
      exact ih (x7 + 1) (x0.set b (gt l (a + x7))) (b + 1) (by omega) (by omega) (by rw [List.length_set]; exact h2) (by
        rw [← Nat.add_assoc, hs, ← h3, List.take_succ_eq_append_getElem (by rw [List.length_set]; omega), List.getElem_set_self, List.take_set_of_le (Nat.le_refl _)]) (by rw [← Nat.add_assoc, hs, List.length_append, ← h4]; rfl)
theorem comp_ev (l : List S49) (hn : l.length ≤ 1048577) : Ev (fun k => slices_CompactFunc_StepS.f k l) (compN l l.length) := by
  unfold slices_CompactFunc_StepS.f
  by_cases h2 : (l.length : Int) < 2
  · simp only [if_pos h2]
    rw [compN_take l l.length (Nat.le_refl _) (fun i hi => by simp [keepAt]; omega), List.take_length]
    exact Ev.now _
  simp only [if_neg h2]
  have K : ∀ e i : Nat, i + e = l.length → 1 ≤ i → (∀ j, j < i → keepAt l j = true) → Ev (fun k => slices_CompactFunc_StepS.l0 k l (i : Int)) (compN l l.length) := by
    intro e
    induction e with
    | zero =>
      intro i hi h1 hk
      refine Ev.step (fun k => slices_CompactFunc_StepS.l0.eq_2 _ _ k) ?_
      simp only [if_neg (show ¬ (i : Int) < (l.length : Int) by omega)]
      rw [compN_take l l.length (Nat.le_refl _) (fun j hj => hk j (by omega)), List.take_length]
      exact Ev.now _
    | succ e ih =>
      intro i hi h1 hk
      have wd : wrap64 ((i : Int) - 1) = ((i - 1 : Nat) : Int) := by rw [w64 (by omega) (by omega)]; omega
      refine Ev.step (fun k => slices_CompactFunc_StepS.l0.eq_2 _ _ k) ?_
      unfold impl_trimmedWave_c1.f
      simp only [if_pos (show (i : Int) < (l.length : Int) by omega), if_pos (show (0 : Int) ≤ (i : Int) by omega), wd, if_pos (show (0 : Int) ≤ ((i - 1 : Nat) : Int) by omega), if_pos (show ((i - 1 : Nat) : Int) < (l.length : Int) by omega), rdg, Option.bind_some, if_pos (show (i : Int) ≤ (l.length : Int) by omega), Int.toNat_natCast, w64 (show -9223372036854775808 ≤ (i : Int) + 1 by omega) (by omega)]
      by_cases hq : ((gt l i).f1 == (gt l (i - 1)).f1) = true
      · simp only [hq, if_true]
        have hkp : keepAt l i = false := by
          unfold keepAt
          rw [hq, decide_eq_false (by omega)]
          rfl
        have hs : compN l (i + 1) = compN l i := by
          rw [show compN l (i + 1) = if keepAt l i = true then compN l i ++ [gt l i] else compN l i from rfl, hkp]
          simp
        have ht := compN_take l i (by omega) hk
        exact comp1_ev l i h1 (by omega) hn (l.length - i - 1) 1 l i (by rw [List.length_drop]; omega) (Nat.le_refl _) rfl (by rw [hs, ht]) (by rw [hs, ht, List.length_take]; omega)
      · simp only [if_neg hq]
        exact ih (i + 1) (by omega) (by omega) (fun j hj => by
          by_cases e : j = i
          · subst e
            unfold keepAt
            rw [Bool.eq_false_iff.2 hq]
            simp
          · exact hk j (by omega))
  exact K (l.length - 1) 1 (by omega) (Nat.le_refl _) (fun j hj => by simp [keepAt]; omega)
def timesB (l : List S49) : Bool := l.all fun s => timeB s.f0
def done (y : List S49) : List S49 × Int := if timesB y = true then (if (y.length : Int) > 24 then ([], 5) else (y, 0)) else ([], 6)
theorem contains_ev (y : List S49) (hn : y.length ≤ 1048577) : Ev (fun k => slices_ContainsFunc_StepS.f k y) (!(timesB y)) := by
  unfold slices_ContainsFunc_StepS.f slices_IndexFunc_StepS.f
  have hp : EvP (fun k => slices_IndexFunc_StepS.l0 k y (y.length : Int) 0) (fun r => decide (r ≥ 0) = !(timesB y)) := by
    refine for_evp (L := fun k (_ : Unit) i => slices_IndexFunc_StepS.l0 k y (y.length : Int) i) y.length (fun i _ => ∀ x ∈ y.take i, timeB x.f0 = true) ?_ ?_ () (by simp)
    · intro i _ hi hs K
      refine EvP.step (fun k => slices_IndexFunc_StepS.l0.eq_2 _ _ _ k) ?_
      unfold impl_trimmedWave_c2.f
      simp only [rdg, if_pos (show (i : Int) < (y.length : Int) by omega), if_pos (show (0 : Int) ≤ (i : Int) by omega), timeI, Option.bind_some]
      rw [gt_at y i hi]
      cases ht : timeB y[i].f0 with
      | true =>
        simp only [Bool.not_true, Bool.false_eq_true, if_false, w64 (show -9223372036854775808 ≤ (i : Int) + 1 by omega) (by omega)]
        refine K () ?_
        intro x hx
        rw [take_next y i hi, List.mem_append] at hx
        rcases hx with hx | hx
        · exact hs x hx
        · rw [List.mem_singleton.1 hx]; exact ht
      | false =>
        simp only [Bool.not_false, if_true]
        refine EvP.now ?_
        rw [decide_eq_true (by omega)]
        have : timesB y = false := by
          unfold timesB
          rw [List.all_eq_false]
          exact ⟨y[i], List.getElem_mem hi, by simp [ht]⟩
        rw [this]
        rfl
    · intro _ hs
      refine EvP.step (fun k => slices_IndexFunc_StepS.l0.eq_2 _ _ _ k) ?_
      simp only [if_neg (show ¬ (y.length : Int) < (y.length : Int) by omega)]
      refine EvP.now ?_
      have : timesB y = true := by
        unfold timesB
        rw [List.all_eq_true]
        simpa using hs
      rw [this]
      decide
  apply EvP.eq
  refine EvP.bindP hp ?_
  intro r hr
  exact EvP.now hr
theorem implDone_ev (l : List S49) (hn : l.length ≤ 1048577) : Ev (fun k => impl_trimmedWave.f k l) (done (compN l l.length)) := by
  unfold impl_trimmedWave.f
  have hc : slices_Clone_StepS.f l = some l := by
    unfold slices_Clone_StepS.f
    simp only [Option.bind_some, List.length_nil, List.nil_append, if_pos (show 0 + l.length < 8796093022208 by omega)]
  simp only [hc, Option.bind_some]
  refine Ev.bind (comp_ev l hn) ?_
  have hlen := compN_len l l.length
  generalize compN l l.length = y at *
  refine Ev.bind (contains_ev y (by omega)) ?_
  unfold done
  cases timesB y with
  | true =>
    simp only [Bool.not_true, Bool.false_eq_true, if_false, if_true]
    split <;> exact Ev.now _
  | false =>
    simp only [Bool.not_false, if_true, Bool.false_eq_true, if_false]
    exact Ev.now _
def ans (l d w q g b : Int) (xs : List S49) : List S49 × Int := let y : List S49 := ⟨0, b⟩ :: (xs.map (E l w q g)).map (D (dly l d q)); done (compN y y.length)
def thru (s : ByteArray) (f t l d w q : Int) (xs : List S49) (g b : Int) : List S49 × Int :=
  if pipeOkV s f t l d w = true ∧ waveB xs = true then (if inR q (-100000) 100000 = true ∧ degB g = true ∧ degB b = true then (if q = 0 then ([], 6) else ans l d w q g b xs) else ([], 2)) else ([], 1)
theorem wave_degs {xs : List S49} (h : waveB xs = true) : ∀ x ∈ xs, -5000 ≤ x.f1 ∧ x.f1 ≤ 20000 := by
  unfold waveB at h
  rw [Bool.and_eq_true, List.all_eq_true] at h
  intro x hx
  obtain ⟨i, hi, rfl⟩ := List.getElem_of_mem hx
  have := h.1 i (List.mem_range.2 hi)
  unfold stepB at this
  simp only [Bool.and_eq_true] at this
  rw [← gt_at xs i hi]
  exact inR_iff.1 this.2.1
theorem impl_ev (s : ByteArray) (f t l d w q : Int) (xs : List S49) (g b : Int) (hs : s.size ≤ 1048576) (hn : xs.length ≤ 1048576) : Ev (fun k => impl_ThroughPipe.f k s f t l d w q xs g b) (thru s f t l d w q xs g b) := by
  unfold impl_ThroughPipe.f thru
  refine Ev.bind (validPipeV_ev s f t l d w hs) ?_
  cases h1 : pipeOkV s f t l d w with
  | false => exact Ev.now _
  | true =>
    simp only [if_true, true_and]
    refine Ev.bind (implWave_ev xs hn) ?_
    cases h2 : waveB xs with
    | false => exact Ev.now _
    | true =>
      have hfl : impl_flowOk.f q = some (inR q (-100000) 100000) := by unfold impl_flowOk.f; rw [within_eq]; rfl
      simp only [if_true, hfl, degI, Option.bind_some]
      cases h3 : inR q (-100000) 100000 with
      | false => exact Ev.now _
      | true =>
        simp only [if_true, true_and]
        cases h4 : degB g with
        | false => exact Ev.now _
        | true =>
          simp only [if_true, true_and]
          cases h5 : degB b with
          | false => exact Ev.now _
          | true =>
            simp only [if_true]
            by_cases h0 : q = 0
            · simp only [if_pos h0]; exact Ev.now _
            simp only [if_neg h0]
            obtain ⟨b1, b2, b3⟩ := ok_b h1
            have hq := inR_iff.1 h3
            have hg := inR_iff.1 h4
            have hd := dly_pos b1 b2 hq h0
            have hc : slices_Clone_StepS.f xs = some xs := by
              unfold slices_Clone_StepS.f
              simp only [Option.bind_some, List.length_nil, List.nil_append, if_pos (show 0 + xs.length < 8796093022208 by omega)]
            simp only [hc, Option.bind_some, delayI b1 b2 hq h0 s f t w]
            refine Ev.bind (cool_ev b1 b3 hq h0 hg s f t xs (wave_degs h2) hn) ?_
            refine Ev.bind (delayed_ev _ _ b (by omega) (by simp; omega)) ?_
            exact implDone_ev _ (by simp; omega)
end Go.Proofs.Ytmmlhbfkchbpaaa.PThru2
end
