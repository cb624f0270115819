/- The law FnExactDelayTo: part 9 of its texts, joined (wip/pack.py). -/
import Derived.Test.YthnhchpgpnaamaaKFnExactDelayToa
import Derived.Test.YthnhchpgpnaamaaKFnExactDelayTob
import Derived.Test.YthnhchpgpnaamaaKFnExactDelayToc
import Derived.Test.YthnhchpgpnaamaaKFnExactDelayTod
import Derived.Test.YthnhchpgpnaamaaKFnExactDelayToe
import Derived.Test.YthnhchpgpnaamaaKFnExactDelayTof
import Derived.Test.YthnhchpgpnaamaaKFnExactDelayTog
import Derived.Test.YthnhchpgpnaamaaKFnExactDelayToh
import Derived.Test.YthnhchpgpnaamaaKFnExactDelayToi
import Derived.Deep.Slices
import Derived.SizedLaws
import Derived.ChangeArms
import Derived.WideShapes
import Derived.KernelRfl
import Derived.Lib.Strings
import Derived.Lib.IndexLaws
import Derived.Lib.IndexBytes
import Derived.Lib.IndexMore

section
namespace Go.Proofs.Ythnhchpgpnaamaa.XG
open Go.RowKit Go.Proofs.YthnhchpgpnaamaaW.PrintWords Go.Proofs.YthnhchpgpnaamaaW.PrintLast Go.Proofs.YthnhchpgpnaamaaW.PrintMore
attribute [local go_sem] run_eql_slice_nil binOp_string_gtr' binOp_string_leq' binOp_string_geq' max2_int min2_int max_two min_two max_three min_three max_four min_four   -- for this text's walks alone
set_option linter.unusedVariables false
set_option linter.unusedSimpArgs false
def laws_FnExactDelayTo.f (k : Nat) (l0_0 : List Int) (l0_1 : List (S64)) (a1 : Int) (l2 : List Int) (a3 : Int) : Option (Bool) := if (l2.length : Int) > 1048576 then (some true) else ((laws_szNetwork.f k l0_0 l0_1 1048576).bind fun t373 => (if t373 < 0 then (some true) else ((laws_toNetwork.f k l0_0 l0_1).bind fun bt374 => ((laws_toInt64S.f k l2).bind fun t380 => ((spec_DelayTo.f k bt374.1 bt374.2 a1 t380 a3).bind fun bt383 => ((laws_toNetwork.f k l0_0 l0_1).bind fun bt385 => ((laws_toInt64S.f k l2).bind fun t392 => ((impl_DelayTo.f k bt385.1 bt385.2 a1 t392 a3).bind fun bt395 => (if bt395.1 = bt383.1 then (if bt395.2 = bt383.2 then ((laws_toNetwork.f k l0_0 l0_1).bind fun bt397 => ((laws_eqNetwork.f k bt385.1 bt385.2 bt397.1 bt397.2).bind fun t403 => (if t403 = true then ((laws_toInt64S.f k l2).bind fun t404 => ((laws_eqInt64S.f k t392 t404).bind fun t407 => (if t407 = true then (some true) else (none)))) else (none)))) else (none)) else (none))))))))))
set_option maxHeartbeats 8000000 in
set_option maxRecDepth 100000 in
theorem laws_FnExactDelayTo.calls (k : Nat) (A0_0 : Option Addr) (c0_0 : Nat) (l0_0 : List Int) (A0_1 : Option Addr) (c0_1 : Nat) (l0_1 : List (S64)) (a1 : Int) (A2 : Option Addr) (c2 : Nat) (l2 : List Int) (a3 : Int) (r : Bool) (w : World) (hr0_0 : Kd.C (Kd.int .i64) w A0_0 l0_0.length l0_0) (hc0_0 : l0_0.length ≤ c0_0) (hr0_1 : Kd.C k64 w A0_1 l0_1.length l0_1) (hc0_1 : l0_1.length ≤ c0_1) (hr2 : Kd.C (Kd.int .i64) w A2 l2.length l2) (hc2 : l2.length ≤ c2) (h : laws_FnExactDelayTo.f k l0_0 l0_1 a1 l2 a3 = some r) :
  Calls Try.prog 3 #[.agg #[.slice A0_0 l0_0.length c0_0, .slice A0_1 l0_1.length c0_1], .int .i64 a1, .slice A2 l2.length c2, .int .i64 a3] w fun e w' => e = .returned (.bool r) ∧ Below w.heap.size w w' := by
 have hu25 := Try.underlying25
 have hu31 := Try.underlying31
 have HR0_0 := Aside0.mk hr0_0
 have HC0_0 := Aside0.mk hc0_0
 clear hr0_0 hc0_0
 have HR0_1 := Aside0.mk hr0_1
 have HC0_1 := Aside0.mk hc0_1
 clear hr0_1 hc0_1
 have HR2 := Aside0.mk hr2
 have HC2 := Aside0.mk hc2
 clear hr2 hc2
 have HB := Aside0.mk (Below.refl w.heap.size w)
 have H : (if (l2.length : Int) > 1048576 then (some true) else ((laws_szNetwork.f k l0_0 l0_1 1048576).bind fun t373 => (if t373 < 0 then (some true) else ((laws_toNetwork.f k l0_0 l0_1).bind fun bt374 => ((laws_toInt64S.f k l2).bind fun t380 => ((spec_DelayTo.f k bt374.1 bt374.2 a1 t380 a3).bind fun bt383 => ((laws_toNetwork.f k l0_0 l0_1).bind fun bt385 => ((laws_toInt64S.f k l2).bind fun t392 => ((impl_DelayTo.f k bt385.1 bt385.2 a1 t392 a3).bind fun bt395 => (if bt395.1 = bt383.1 then (if bt395.2 = bt383.2 then ((laws_toNetwork.f k l0_0 l0_1).bind fun bt397 => ((laws_eqNetwork.f k bt385.1 bt385.2 bt397.1 bt397.2).bind fun t403 => (if t403 = true then ((laws_toInt64S.f k l2).bind fun t404 => ((laws_eqInt64S.f k t392 t404).bind fun t407 => (if t407 = true then (some true) else (none)))) else (none)))) else (none)) else (none))))))))))) = some r := h
 clear h
 by_cases c5 : (l2.length : Int) > 1048576
 ·rw [if_pos c5] at H
  have c5b0 : decide (1048576 < (l2.length : Int)) = true := decide_eq_true c5
  have c5b1 : decide (1048576 < l2.length) = true := decide_eq_true (by omega)
  clear c5
  obtain rfl := Option.some.inj H
  go_enter Try.func3, Try.ntmps3
  go_wp2_with (first | ((with_reducible refine gate_dst (N := 4) rfl ?_); refine boxZ 4 #[.slice A0_0 l0_0.length c0_0, .slice A0_1 l0_1.length c0_1] 25 rfl rfl ?_; intro gb372 hg w6 hbox hb; have n0_ := Aside0.mk (below_step bZ hb); have n1_ := Aside0.mk (hbox); have n2_ := Aside0.mk ((by rw [hg]; exact bsZ : w.heap.size ≤ gb372)); have n3_ := Aside0.mk ((by rw [hg]; exact bsZ : w.heap.size ≤ gb372)); clear HB; have HB := n0_; have BK372 := n1_; have GW372 := n2_; have GE372 := n3_; clear n0_ n1_ n2_ n3_; clear hb hbox hg))
  go_ret
  exact ⟨eZ, bZ⟩
 ·rw [if_neg c5] at H
  have c5b0 : decide (1048576 < (l2.length : Int)) = false := decide_eq_false c5
  have c5b1 : decide (1048576 < l2.length) = false := decide_eq_false (by omega)
  clear c5
  replace H := Option.bind_eq_some_iff.mp H
  obtain ⟨t373, A70, H⟩ := H
  replace H : (if t373 < 0 then (some true) else ((laws_toNetwork.f k l0_0 l0_1).bind fun bt374 => ((laws_toInt64S.f k l2).bind fun t380 => ((spec_DelayTo.f k bt374.1 bt374.2 a1 t380 a3).bind fun bt383 => ((laws_toNetwork.f k l0_0 l0_1).bind fun bt385 => ((laws_toInt64S.f k l2).bind fun t392 => ((impl_DelayTo.f k bt385.1 bt385.2 a1 t392 a3).bind fun bt395 => (if bt395.1 = bt383.1 then (if bt395.2 = bt383.2 then ((laws_toNetwork.f k l0_0 l0_1).bind fun bt397 => ((laws_eqNetwork.f k bt385.1 bt385.2 bt397.1 bt397.2).bind fun t403 => (if t403 = true then ((laws_toInt64S.f k l2).bind fun t404 => ((laws_eqInt64S.f k t392 t404).bind fun t407 => (if t407 = true then (some true) else (none)))) else (none)))) else (none)) else (none))))))))) = some r := H
  have A7 := Aside0.mk A70
  clear A70
  by_cases c8 : t373 < 0
  ·rw [if_pos c8] at H
   have c8b0 : decide (t373 < 0) = true := decide_eq_true c8
   clear c8
   obtain rfl := Option.some.inj H
   go_enter Try.func3, Try.ntmps3
   go_wp2_with (first | ((with_reducible refine gate_dst (N := 4) rfl ?_); refine boxZ 4 #[.slice A0_0 l0_0.length c0_0, .slice A0_1 l0_1.length c0_1] 25 rfl rfl ?_; intro gb372 hg w9 hbox hb; have n0_ := Aside0.mk (below_step bZ hb); have n1_ := Aside0.mk (hbox); have n2_ := Aside0.mk ((by rw [hg]; exact bsZ : w.heap.size ≤ gb372)); have n3_ := Aside0.mk ((by rw [hg]; exact bsZ : w.heap.size ≤ gb372)); clear HB; have HB := n0_; have BK372 := n1_; have GW372 := n2_; have GE372 := n3_; clear n0_ n1_ n2_ n3_; clear hb hbox hg; have hcz10_0 := bc0 BK372.out; have hcz10_1 := bc1 BK372.out; have hfz10_0 := blk_frozen BK372.out 0; have hfz10_1 := blk_frozen BK372.out 1) | ((with_reducible refine gate_callee (f := 4) rfl ?_); refine goesL_ (some 21) rfl rfl Try.func4 (by kernel_rfl) rfl #[.agg #[.slice A0_0 l0_0.length c0_0, .slice A0_1 l0_1.length c0_1], .int .i64 1048576] rfl gZ ?_; (with_reducible refine (laws_szNetwork.calls k _ _ l0_0 _ _ l0_1 1048576 t373 _ ?side1 ?side2 ?side3 ?side4 A7.out).mono ?_); (case side1 => repeat (first | exact (Kd.C_below HR0_0.out HB.out) | (with_reducible refine Kd.C_alloc ?_ _) | (with_reducible refine Kd.C_drewN ?_ _) | (with_reducible refine Kd.C_drew ?_))); (case side2 => exact HC0_0.out); (case side3 => repeat (first | exact (Kd.C_below HR0_1.out HB.out) | (with_reducible refine Kd.C_alloc ?_ _) | (with_reducible refine Kd.C_drewN ?_ _) | (with_reducible refine Kd.C_drew ?_))); (case side4 => exact HC0_1.out); rintro e w11 ⟨rfl, hb⟩; refine ⟨_, rfl, ?_⟩; have n0_ := Aside0.mk (blk_below (g := gb372) (o := .cells #[.slice A0_0 l0_0.length c0_0, .slice A0_1 l0_1.length c0_1] 25 (0, 0)) (kZ BK372.out) hb); have n1_ := Aside0.mk (below_step bZ hb); clear BK372; clear HB; have BK372 := n0_; have HB := n1_; clear n0_ n1_; (try clear hb); (try clear hb2); (try clear hk); (try clear hi)))
   go_ret
   exact ⟨eZ, bZ⟩
  ·rw [if_neg c8] at H
   have c8b0 : decide (t373 < 0) = false := decide_eq_false c8
   clear c8
   replace H := Option.bind_eq_some_iff.mp H
   obtain ⟨⟨t374, t377⟩, A120, H⟩ := H
   replace H : ((laws_toInt64S.f k l2).bind fun t380 => ((spec_DelayTo.f k t374 t377 a1 t380 a3).bind fun bt383 => ((laws_toNetwork.f k l0_0 l0_1).bind fun bt385 => ((laws_toInt64S.f k l2).bind fun t392 => ((impl_DelayTo.f k bt385.1 bt385.2 a1 t392 a3).bind fun bt395 => (if bt395.1 = bt383.1 then (if bt395.2 = bt383.2 then ((laws_toNetwork.f k l0_0 l0_1).bind fun bt397 => ((laws_eqNetwork.f k bt385.1 bt385.2 bt397.1 bt397.2).bind fun t403 => (if t403 = true then ((laws_toInt64S.f k l2).bind fun t404 => ((laws_eqInt64S.f k t392 t404).bind fun t407 => (if t407 = true then (some true) else (none)))) else (none)))) else (none)) else (none))))))) = some r := H
   have A12 := Aside0.mk A120
   clear A120
   replace H := Option.bind_eq_some_iff.mp H
   obtain ⟨t380, A130, H⟩ := H
   replace H : ((spec_DelayTo.f k t374 t377 a1 t380 a3).bind fun bt383 => ((laws_toNetwork.f k l0_0 l0_1).bind fun bt385 => ((laws_toInt64S.f k l2).bind fun t392 => ((impl_DelayTo.f k bt385.1 bt385.2 a1 t392 a3).bind fun bt395 => (if bt395.1 = bt383.1 then (if bt395.2 = bt383.2 then ((laws_toNetwork.f k l0_0 l0_1).bind fun bt397 => ((laws_eqNetwork.f k bt385.1 bt385.2 bt397.1 bt397.2).bind fun t403 => (if t403 = true then ((laws_toInt64S.f k l2).bind fun t404 => ((laws_eqInt64S.f k t392 t404).bind fun t407 => (if t407 = true then (some true) else (none)))) else (none)))) else (none)) else (none)))))) = some r := H
   have A13 := Aside0.mk A130
   clear A130
   replace H := Option.bind_eq_some_iff.mp H
   obtain ⟨⟨t383, t384⟩, A140, H⟩ := H
   replace H : ((laws_toNetwork.f k l0_0 l0_1).bind fun bt385 => ((laws_toInt64S.f k l2).bind fun t392 => ((impl_DelayTo.f k bt385.1 bt385.2 a1 t392 a3).bind fun bt395 => (if bt395.1 = t383 then (if bt395.2 = t384 then ((laws_toNetwork.f k l0_0 l0_1).bind fun bt397 => ((laws_eqNetwork.f k bt385.1 bt385.2 bt397.1 bt397.2).bind fun t403 => (if t403 = true then ((laws_toInt64S.f k l2).bind fun t404 => ((laws_eqInt64S.f k t392 t404).bind fun t407 => (if t407 = true then (some true) else (none)))) else (none)))) else (none)) else (none))))) = some r := H
   have A14 := Aside0.mk A140
   clear A140
   replace H := Option.bind_eq_some_iff.mp H
   obtain ⟨⟨t385, t388⟩, A150, H⟩ := H
   replace H : ((laws_toInt64S.f k l2).bind fun t392 => ((impl_DelayTo.f k t385 t388 a1 t392 a3).bind fun bt395 => (if bt395.1 = t383 then (if bt395.2 = t384 then ((laws_toNetwork.f k l0_0 l0_1).bind fun bt397 => ((laws_eqNetwork.f k t385 t388 bt397.1 bt397.2).bind fun t403 => (if t403 = true then ((laws_toInt64S.f k l2).bind fun t404 => ((laws_eqInt64S.f k t392 t404).bind fun t407 => (if t407 = true then (some true) else (none)))) else (none)))) else (none)) else (none)))) = some r := H
   have A15 := Aside0.mk A150
   clear A150
   replace H := Option.bind_eq_some_iff.mp H
   obtain ⟨t392, A160, H⟩ := H
   replace H : ((impl_DelayTo.f k t385 t388 a1 t392 a3).bind fun bt395 => (if bt395.1 = t383 then (if bt395.2 = t384 then ((laws_toNetwork.f k l0_0 l0_1).bind fun bt397 => ((laws_eqNetwork.f k t385 t388 bt397.1 bt397.2).bind fun t403 => (if t403 = true then ((laws_toInt64S.f k l2).bind fun t404 => ((laws_eqInt64S.f k t392 t404).bind fun t407 => (if t407 = true then (some true) else (none)))) else (none)))) else (none)) else (none))) = some r := H
   have A16 := Aside0.mk A160
   clear A160
   replace H := Option.bind_eq_some_iff.mp H
   obtain ⟨⟨t395, t396⟩, A170, H⟩ := H
   replace H : (if t395 = t383 then (if t396 = t384 then ((laws_toNetwork.f k l0_0 l0_1).bind fun bt397 => ((laws_eqNetwork.f k t385 t388 bt397.1 bt397.2).bind fun t403 => (if t403 = true then ((laws_toInt64S.f k l2).bind fun t404 => ((laws_eqInt64S.f k t392 t404).bind fun t407 => (if t407 = true then (some true) else (none)))) else (none)))) else (none)) else (none)) = some r := H
   have A17 := Aside0.mk A170
   clear A170
   by_cases c18 : t395 = t383
   ·rw [if_pos c18] at H
    have c18b0 : (t395 == t383) = true := beq_iff_eq.mpr c18
    have c18b1 : (t395 != t383) = false := bne_eq_false_iff_eq.mpr c18
    clear c18
    by_cases c19 : t396 = t384
    ·rw [if_pos c19] at H
     have c19b0 : (t396 == t384) = true := beq_iff_eq.mpr c19
     have c19b1 : (t396 != t384) = false := bne_eq_false_iff_eq.mpr c19
     clear c19
     replace H := Option.bind_eq_some_iff.mp H
     obtain ⟨⟨t397, t400⟩, A200, H⟩ := H
     replace H : ((laws_eqNetwork.f k t385 t388 t397 t400).bind fun t403 => (if t403 = true then ((laws_toInt64S.f k l2).bind fun t404 => ((laws_eqInt64S.f k t392 t404).bind fun t407 => (if t407 = true then (some true) else (none)))) else (none))) = some r := H
     have A20 := Aside0.mk A200
     clear A200
     replace H := Option.bind_eq_some_iff.mp H
     obtain ⟨t403, A210, H⟩ := H
     replace H : (if t403 = true then ((laws_toInt64S.f k l2).bind fun t404 => ((laws_eqInt64S.f k t392 t404).bind fun t407 => (if t407 = true then (some true) else (none)))) else (none)) = some r := H
     have A21 := Aside0.mk A210
     clear A210
     by_cases c22 : t403 = true
     ·subst c22
      have H1 : ((laws_toInt64S.f k l2).bind fun t404 => ((laws_eqInt64S.f k t392 t404).bind fun t407 => (if t407 = true then (some true) else (none)))) = some r := by rw [if_pos rfl] at H; exact H
      clear H
      have H := H1
      clear H1
      replace H := Option.bind_eq_some_iff.mp H
      obtain ⟨t404, A230, H⟩ := H
      replace H : ((laws_eqInt64S.f k t392 t404).bind fun t407 => (if t407 = true then (some true) else (none))) = some r := H
      have A23 := Aside0.mk A230
      clear A230
      replace H := Option.bind_eq_some_iff.mp H
      obtain ⟨t407, A240, H⟩ := H
      replace H : (if t407 = true then (some true) else (none)) = some r := H
      have A24 := Aside0.mk A240
      clear A240
      by_cases c25 : t407 = true
      ·subst c25
       have H1 : (some true) = some r := by rw [if_pos rfl] at H; exact H
       clear H
       have H := H1
       clear H1
       obtain rfl := Option.some.inj H
       go_enter Try.func3, Try.ntmps3
       try go_wp2_with (first | ((with_reducible refine gate_dst (N := 4) rfl ?_); refine boxZ 4 #[.slice A0_0 l0_0.length c0_0, .slice A0_1 l0_1.length c0_1] 25 rfl rfl ?_; intro gb372 hg w26 hbox hb; have n0_ := Aside0.mk (below_step bZ hb); have n1_ := Aside0.mk (hbox); have n2_ := Aside0.mk ((by rw [hg]; exact bsZ : w.heap.size ≤ gb372)); have n3_ := Aside0.mk ((by rw [hg]; exact bsZ : w.heap.size ≤ gb372)); clear HB; have HB := n0_; have BK372 := n1_; have GW372 := n2_; have GE372 := n3_; clear n0_ n1_ n2_ n3_; clear hb hbox hg; have hcz27_0 := bc0 BK372.out; have hcz27_1 := bc1 BK372.out; have hfz27_0 := blk_frozen BK372.out 0; have hfz27_1 := blk_frozen BK372.out 1) | ((with_reducible refine gate_callee (f := 4) rfl ?_); refine goesL_ (some 21) rfl rfl Try.func4 (by kernel_rfl) rfl #[.agg #[.slice A0_0 l0_0.length c0_0, .slice A0_1 l0_1.length c0_1], .int .i64 1048576] rfl gZ ?_; (with_reducible refine (laws_szNetwork.calls k _ _ l0_0 _ _ l0_1 1048576 t373 _ ?side1 ?side2 ?side3 ?side4 A7.out).mono ?_); (case side1 => repeat (first | exact (Kd.C_below HR0_0.out HB.out) | (with_reducible refine Kd.C_alloc ?_ _) | (with_reducible refine Kd.C_drewN ?_ _) | (with_reducible refine Kd.C_drew ?_))); (case side2 => exact HC0_0.out); (case side3 => repeat (first | exact (Kd.C_below HR0_1.out HB.out) | (with_reducible refine Kd.C_alloc ?_ _) | (with_reducible refine Kd.C_drewN ?_ _) | (with_reducible refine Kd.C_drew ?_))); (case side4 => exact HC0_1.out); rintro e w28 ⟨rfl, hb⟩; refine ⟨_, rfl, ?_⟩; have n0_ := Aside0.mk (blk_below (g := gb372) (o := .cells #[.slice A0_0 l0_0.length c0_0, .slice A0_1 l0_1.length c0_1] 25 (0, 0)) (kZ BK372.out) hb); have n1_ := Aside0.mk (below_step bZ hb); clear BK372; clear HB; have BK372 := n0_; have HB := n1_; clear n0_ n1_; (try clear hb); (try clear hb2); (try clear hk); (try clear hi); have hcz29_0 := bc0 BK372.out; have hcz29_1 := bc1 BK372.out; have hfz29_0 := blk_frozen BK372.out 0; have hfz29_1 := blk_frozen BK372.out 1) | ((with_reducible refine gate_callee (f := 6) rfl ?_); refine goesL_ (some 26) rfl rfl Try.func6 (by kernel_rfl) rfl #[.agg #[.slice A0_0 l0_0.length c0_0, .slice A0_1 l0_1.length c0_1]] rfl gZ ?_; (with_reducible refine (laws_toNetwork.calls k _ _ l0_0 _ _ l0_1 t374 t377 _ ?side1 ?side2 ?side3 ?side4 A12.out).mono ?_); (case side1 => repeat (first | exact (Kd.C_below HR0_0.out HB.out) | (with_reducible refine Kd.C_alloc ?_ _) | (with_reducible refine Kd.C_drewN ?_ _) | (with_reducible refine Kd.C_drew ?_))); (case side2 => exact HC0_0.out); (case side3 => repeat (first | exact (Kd.C_below HR0_1.out HB.out) | (with_reducible refine Kd.C_alloc ?_ _) | (with_reducible refine Kd.C_drewN ?_ _) | (with_reducible refine Kd.C_drew ?_))); (case side4 => exact HC0_1.out); rintro e w30 ⟨v375, v378, rfl, ho0, ho1, hb⟩; refine ⟨_, rfl, ?_⟩; have n0_ := Aside0.mk (Kd.R_lower ho0 bsZ); have n1_ := Aside0.mk (Kd.R_lower ho1 bsZ); have n2_ := Aside0.mk (blk_below (g := gb372) (o := .cells #[.slice A0_0 l0_0.length c0_0, .slice A0_1 l0_1.length c0_1] 25 (0, 0)) (kZ BK372.out) hb); have n3_ := Aside0.mk (below_step bZ hb); clear BK372; clear HB; have HO376 := n0_; have HO379 := n1_; have BK372 := n2_; have HB := n3_; clear n0_ n1_ n2_ n3_; (try clear hb); (try clear hb2); (try clear hk); (try clear hi); (try clear ho0); (try clear ho1)) | ((with_reducible refine gate_callee (f := 7) rfl ?_); refine goesL_ (some 29) rfl rfl Try.func7 (by kernel_rfl) rfl #[.slice A2 l2.length c2] rfl gZ ?_; (with_reducible refine (laws_toInt64S.calls k _ _ l2 t380 _ ?side1 ?side2 A13.out).mono ?_); (case side1 => repeat (first | exact (Kd.C_below HR2.out HB.out) | (with_reducible refine Kd.C_alloc ?_ _) | (with_reducible refine Kd.C_drewN ?_ _) | (with_reducible refine Kd.C_drew ?_))); (case side2 => exact HC2.out); rintro e w31 ⟨v381, rfl, ho0, hb⟩; refine ⟨_, rfl, ?_⟩; have n0_ := Aside0.mk (Kd.R_elder' (Kd.rZ HO376.out) (Kd.R_base ho0) hb); have n1_ := Aside0.mk (Kd.R_below (Kd.rZ HO379.out) hb); have n2_ := Aside0.mk (Kd.R_lower (Kd.R_new' ho0 (Kd.R_lt (Kd.rZ HO376.out))) bsZ); have n3_ := Aside0.mk (blk_below (g := gb372) (o := .cells #[.slice A0_0 l0_0.length c0_0, .slice A0_1 l0_1.length c0_1] 25 (0, 0)) (kZ BK372.out) hb); have n4_ := Aside0.mk (below_step bZ hb); clear HO376; clear HO379; clear BK372; clear HB; have HO376 := n0_; have HO379 := n1_; have HO382 := n2_; have BK372 := n3_; have HB := n4_; clear n0_ n1_ n2_ n3_ n4_; (try clear hb); (try clear hb2); (try clear hk); (try clear hi); (try clear ho0); obtain ⟨Ao32, co32, eo32⟩ := Kd.R_slice HO376.out; subst eo32; obtain ⟨Ao33, co33, eo33⟩ := Kd.R_slice HO379.out; subst eo33; obtain ⟨Ao34, co34, eo34⟩ := Kd.R_slice HO382.out; subst eo34) | ((with_reducible refine gate_callee (f := 5) rfl ?_); refine goesL_ (some 31) rfl rfl Try.func5 (by kernel_rfl) rfl #[.agg #[.slice Ao32 t374.length co32, .slice Ao33 t377.length co33], .int .i64 a1, .slice Ao34 t380.length co34, .int .i64 a3] rfl gZ ?_; (with_reducible refine (spec_DelayTo.calls k _ _ t374 _ _ t377 a1 _ _ t380 a3 t383 t384 _ ?side1 ?side2 ?side3 ?side4 ?side5 ?side6 A14.out).mono ?_); (case side1 => exact Kd.cZ HO376.out); (case side2 => exact (Kd.R_reads' HO376.out).2.1); (case side3 => exact Kd.cZ HO379.out); (case side4 => exact (Kd.R_reads' HO379.out).2.1); (case side5 => exact Kd.cZ HO382.out); (case side6 => exact (Kd.R_reads' HO382.out).2.1); rintro e w35 ⟨rfl, hb⟩; refine ⟨_, rfl, ?_⟩; have n0_ := Aside0.mk (Kd.R_below (Kd.rZ HO376.out) hb); have n1_ := Aside0.mk (Kd.R_below (Kd.rZ HO379.out) hb); have n2_ := Aside0.mk (Kd.R_below (Kd.rZ HO382.out) hb); have n3_ := Aside0.mk (blk_below (g := gb372) (o := .cells #[.slice A0_0 l0_0.length c0_0, .slice A0_1 l0_1.length c0_1] 25 (0, 0)) (kZ BK372.out) hb); have n4_ := Aside0.mk (below_step bZ hb); clear HO376; clear HO379; clear HO382; clear BK372; clear HB; have HO376 := n0_; have HO379 := n1_; have HO382 := n2_; have BK372 := n3_; have HB := n4_; clear n0_ n1_ n2_ n3_ n4_; (try clear hb); (try clear hb2); (try clear hk); (try clear hi); have hcz36_0 := bc0 BK372.out; have hcz36_1 := bc1 BK372.out; have hfz36_0 := blk_frozen BK372.out 0; have hfz36_1 := blk_frozen BK372.out 1) | ((with_reducible refine gate_callee (f := 6) rfl ?_); refine goesL_ (some 35) rfl rfl Try.func6 (by kernel_rfl) rfl #[.agg #[.slice A0_0 l0_0.length c0_0, .slice A0_1 l0_1.length c0_1]] rfl gZ ?_; (with_reducible refine (laws_toNetwork.calls k _ _ l0_0 _ _ l0_1 t385 t388 _ ?side1 ?side2 ?side3 ?side4 A15.out).mono ?_); (case side1 => repeat (first | exact (Kd.C_below HR0_0.out HB.out) | (with_reducible refine Kd.C_alloc ?_ _) | (with_reducible refine Kd.C_drewN ?_ _) | (with_reducible refine Kd.C_drew ?_))); (case side2 => exact HC0_0.out); (case side3 => repeat (first | exact (Kd.C_below HR0_1.out HB.out) | (with_reducible refine Kd.C_alloc ?_ _) | (with_reducible refine Kd.C_drewN ?_ _) | (with_reducible refine Kd.C_drew ?_))); (case side4 => exact HC0_1.out); rintro e w37 ⟨v386, v389, rfl, ho0, ho1, hb⟩; refine ⟨_, rfl, ?_⟩; have n0_ := Aside0.mk (Kd.R_elder' (Kd.rZ HO376.out) (Kd.R_base ho0) hb); have n1_ := Aside0.mk (Kd.R_elder' (Kd.rZ HO379.out) (Kd.R_base ho1) hb); have n2_ := Aside0.mk (Kd.R_elder' (Kd.rZ HO382.out) (Kd.R_base ho0) hb); have n3_ := Aside0.mk (Kd.R_lower (Kd.R_new' (Kd.R_new' ho0 (Kd.R_lt (Kd.rZ HO376.out))) (Kd.R_lt (Kd.rZ HO382.out))) bsZ); have n4_ := Aside0.mk (Kd.R_lower (Kd.R_new' ho1 (Kd.R_lt (Kd.rZ HO379.out))) bsZ); have n5_ := Aside0.mk (blk_below (g := gb372) (o := .cells #[.slice A0_0 l0_0.length c0_0, .slice A0_1 l0_1.length c0_1] 25 (0, 0)) (kZ BK372.out) hb); have n6_ := Aside0.mk (below_step bZ hb); clear HO376; clear HO379; clear HO382; clear BK372; clear HB; have HO376 := n0_; have HO379 := n1_; have HO382 := n2_; have HO387 := n3_; have HO390 := n4_; have BK372 := n5_; have HB := n6_; clear n0_ n1_ n2_ n3_ n4_ n5_ n6_; (try clear hb); (try clear hb2); (try clear hk); (try clear hi); (try clear ho0); (try clear ho1)) | ((with_reducible refine gate_dst (N := 12) rfl ?_); refine boxZ 12 #[.slice none 0 0, .slice none 0 0] 31 rfl rfl ?_; intro gb391 hg w38 hbox hb; have n0_ := Aside0.mk (Kd.R_below (Kd.rZ HO376.out) hb); have n1_ := Aside0.mk (Kd.R_below (Kd.rZ HO379.out) hb); have n2_ := Aside0.mk (Kd.R_below (Kd.rZ HO382.out) hb); have n3_ := Aside0.mk (Kd.R_below (Kd.rZ HO387.out) hb); have n4_ := Aside0.mk (Kd.R_below (Kd.rZ HO390.out) hb); have n5_ := Aside0.mk (blk_below (g := gb372) (o := .cells #[.slice A0_0 l0_0.length c0_0, .slice A0_1 l0_1.length c0_1] 25 (0, 0)) (kZ BK372.out) hb); have n6_ := Aside0.mk (below_step bZ hb); have n7_ := Aside0.mk (hbox); have n8_ := Aside0.mk ((by rw [hg]; exact bsZ : w.heap.size ≤ gb391)); have n9_ := Aside0.mk ((by rw [hg]; exact bsZ : w.heap.size ≤ gb391)); have n10_ := Aside0.mk ((by rw [hg]; exact Nat.ne_of_lt (blk_lt (g := gb372) (o := .cells #[.slice A0_0 l0_0.length c0_0, .slice A0_1 l0_1.length c0_1] 25 (0, 0)) (kZ BK372.out)) : gb372 ≠ gb391)); have n11_ := Aside0.mk ((by rw [hg]; exact Nat.ne_of_gt (blk_lt (g := gb372) (o := .cells #[.slice A0_0 l0_0.length c0_0, .slice A0_1 l0_1.length c0_1] 25 (0, 0)) (kZ BK372.out)) : gb391 ≠ gb372)); clear HO376; clear HO379; clear HO382; clear HO387; clear HO390; clear BK372; clear HB; have HO376 := n0_; have HO379 := n1_; have HO382 := n2_; have HO387 := n3_; have HO390 := n4_; have BK372 := n5_; have HB := n6_; have BK391 := n7_; have GW391 := n8_; have GE391 := n9_; have NB372_391 := n10_; have NB391_372 := n11_; clear n0_ n1_ n2_ n3_ n4_ n5_ n6_ n7_ n8_ n9_ n10_ n11_; clear hb hbox hg; obtain ⟨Ao39, co39, eo39⟩ := Kd.R_slice HO387.out; subst eo39; have hnb40 := NB391_372.out; have hnc40 := NB372_391.out; have hcz41_0 := bc0 BK391.out; have hcz41_1 := bc1 BK391.out; have hfz41_0 := blk_frozen BK391.out 0; have hfz41_1 := blk_frozen BK391.out 1; obtain ⟨Ao42, co42, eo42⟩ := Kd.R_slice HO390.out; subst eo42) | ((with_reducible refine gate_callee (f := 7) rfl ?_); refine goesL_ (some 37) rfl rfl Try.func7 (by kernel_rfl) rfl #[.slice A2 l2.length c2] rfl gZ ?_; (with_reducible refine (laws_toInt64S.calls k _ _ l2 t392 _ ?side1 ?side2 A16.out).mono ?_); (case side1 => exact Kd.C_below HR2.out bZ); (case side2 => exact HC2.out); rintro e w43 ⟨v393, rfl, ho0, hb⟩; refine ⟨_, rfl, ?_⟩; have n0_ := Aside0.mk (Kd.R_elder' (Kd.rZ ((Kd.R_mono (Kd.R_far (p := ⟨gb391, 1, none⟩) (Kd.R_far (p := ⟨gb391, 0, none⟩) (Kd.R_types HO376.out BK391.out (by decide)) (fun _ hk => hk.2) (.slice Ao39 t385.length co39)) (fun _ hk => hk.2) (.slice Ao42 t388.length co42)) (fun _ h_ => h_.1)))) (Kd.R_base ho0) hb); have n1_ := Aside0.mk (Kd.R_below (Kd.rZ ((Kd.R_mono (Kd.R_far (p := ⟨gb391, 1, none⟩) (Kd.R_far (p := ⟨gb391, 0, none⟩) (Kd.R_types HO379.out BK391.out (by decide)) (fun _ hk => hk.2) (.slice Ao39 t385.length co39)) (fun _ hk => hk.2) (.slice Ao42 t388.length co42)) (fun _ h_ => h_.1)))) hb); have n2_ := Aside0.mk (Kd.R_elder' (Kd.rZ ((Kd.R_mono (Kd.R_far (p := ⟨gb391, 1, none⟩) (Kd.R_far (p := ⟨gb391, 0, none⟩) (Kd.R_types HO382.out BK391.out (by decide)) (fun _ hk => hk.2) (.slice Ao39 t385.length co39)) (fun _ hk => hk.2) (.slice Ao42 t388.length co42)) (fun _ h_ => h_.1)))) (Kd.R_base ho0) hb); have n3_ := Aside0.mk (Kd.R_elder' (Kd.rZ ((Kd.R_mono (Kd.R_far (p := ⟨gb391, 1, none⟩) (Kd.R_far (p := ⟨gb391, 0, none⟩) (Kd.R_types HO387.out BK391.out (by decide)) (fun _ hk => hk.2) (.slice Ao39 t385.length co39)) (fun _ hk => hk.2) (.slice Ao42 t388.length co42)) (fun _ h_ => h_.1)))) (Kd.R_base ho0) hb); have n4_ := Aside0.mk (Kd.R_below (Kd.rZ ((Kd.R_mono (Kd.R_far (p := ⟨gb391, 1, none⟩) (Kd.R_far (p := ⟨gb391, 0, none⟩) (Kd.R_types HO390.out BK391.out (by decide)) (fun _ hk => hk.2) (.slice Ao39 t385.length co39)) (fun _ hk => hk.2) (.slice Ao42 t388.length co42)) (fun _ h_ => h_.1)))) hb); have n5_ := Aside0.mk (Kd.R_lower (Kd.R_new' (Kd.R_new' (Kd.R_new' ho0 (Kd.R_lt (Kd.rZ ((Kd.R_mono (Kd.R_far (p := ⟨gb391, 1, none⟩) (Kd.R_far (p := ⟨gb391, 0, none⟩) (Kd.R_types HO376.out BK391.out (by decide)) (fun _ hk => hk.2) (.slice Ao39 t385.length co39)) (fun _ hk => hk.2) (.slice Ao42 t388.length co42)) (fun _ h_ => h_.1)))))) (Kd.R_lt (Kd.rZ ((Kd.R_mono (Kd.R_far (p := ⟨gb391, 1, none⟩) (Kd.R_far (p := ⟨gb391, 0, none⟩) (Kd.R_types HO382.out BK391.out (by decide)) (fun _ hk => hk.2) (.slice Ao39 t385.length co39)) (fun _ hk => hk.2) (.slice Ao42 t388.length co42)) (fun _ h_ => h_.1)))))) (Kd.R_lt (Kd.rZ ((Kd.R_mono (Kd.R_far (p := ⟨gb391, 1, none⟩) (Kd.R_far (p := ⟨gb391, 0, none⟩) (Kd.R_types HO387.out BK391.out (by decide)) (fun _ hk => hk.2) (.slice Ao39 t385.length co39)) (fun _ hk => hk.2) (.slice Ao42 t388.length co42)) (fun _ h_ => h_.1)))))) bsZ); have n6_ := Aside0.mk (blk_below (g := gb372) (o := .cells #[.slice A0_0 l0_0.length c0_0, .slice A0_1 l0_1.length c0_1] 25 (0, 0)) (by (with_reducible repeat (first | refine blk_drewN ?_ _ | refine blk_drew ?_ | refine blk_alloc ?_ _)); refine blk_far ?_ NB372_391.out _; (with_reducible repeat (first | refine blk_drewN ?_ _ | refine blk_drew ?_ | refine blk_alloc ?_ _)); refine blk_far ?_ NB372_391.out _; (with_reducible repeat (first | refine blk_drewN ?_ _ | refine blk_drew ?_ | refine blk_alloc ?_ _)); exact BK372.out) hb); have n7_ := Aside0.mk (blk_below (g := gb391) (o := .cells #[.slice Ao39 t385.length co39, .slice Ao42 t388.length co42] 31 (0, 0)) (by (with_reducible repeat (first | refine blk_drewN ?_ _ | refine blk_drew ?_ | refine blk_alloc ?_ _)); refine blk_put (cs := #[.slice Ao39 t385.length co39, .slice none 0 0]) ?_ 1 _ rfl; (with_reducible repeat (first | refine blk_drewN ?_ _ | refine blk_drew ?_ | refine blk_alloc ?_ _)); refine blk_put (cs := #[.slice none 0 0, .slice none 0 0]) ?_ 0 _ rfl; (with_reducible repeat (first | refine blk_drewN ?_ _ | refine blk_drew ?_ | refine blk_alloc ?_ _)); exact BK391.out) hb); have n8_ := Aside0.mk (below_step bZ hb); clear HO376; clear HO379; clear HO382; clear HO387; clear HO390; clear BK372; clear BK391; clear HB; have HO376 := n0_; have HO379 := n1_; have HO382 := n2_; have HO387 := n3_; have HO390 := n4_; have HO394 := n5_; have BK372 := n6_; have BK391 := n7_; have HB := n8_; clear n0_ n1_ n2_ n3_ n4_ n5_ n6_ n7_ n8_; (try clear hb); (try clear hb2); (try clear hk); (try clear hi); (try clear ho0); have hcz44_0 := bc0 BK391.out; have hcz44_1 := bc1 BK391.out; have hfz44_0 := blk_frozen BK391.out 0; have hfz44_1 := blk_frozen BK391.out 1; obtain ⟨Ao45, co45, eo45⟩ := Kd.R_slice HO394.out; subst eo45) | ((with_reducible refine gate_callee (f := 8) rfl ?_); refine goesL_ (some 43) rfl rfl Try.func8 (by kernel_rfl) rfl #[.agg #[.slice Ao39 t385.length co39, .slice Ao42 t388.length co42], .int .i64 a1, .slice Ao45 t392.length co45, .int .i64 a3] rfl gZ ?_; (with_reducible refine (impl_DelayTo.calls k _ _ t385 _ _ t388 a1 _ _ t392 a3 t395 t396 _ ?side1 ?side2 ?side3 ?side4 ?side5 ?side6 A17.out).mono ?_); (case side1 => exact Kd.cZ HO387.out); (case side2 => exact (Kd.R_reads' HO387.out).2.1); (case side3 => exact Kd.cZ HO390.out); (case side4 => exact (Kd.R_reads' HO390.out).2.1); (case side5 => exact Kd.cZ HO394.out); (case side6 => exact (Kd.R_reads' HO394.out).2.1); rintro e w46 ⟨rfl, hb⟩; refine ⟨_, rfl, ?_⟩; have n0_ := Aside0.mk (Kd.R_below (Kd.rZ HO376.out) hb); have n1_ := Aside0.mk (Kd.R_below (Kd.rZ HO379.out) hb); have n2_ := Aside0.mk (Kd.R_below (Kd.rZ HO382.out) hb); have n3_ := Aside0.mk (Kd.R_below (Kd.rZ HO387.out) hb); have n4_ := Aside0.mk (Kd.R_below (Kd.rZ HO390.out) hb); have n5_ := Aside0.mk (Kd.R_below (Kd.rZ HO394.out) hb); have n6_ := Aside0.mk (blk_below (g := gb372) (o := .cells #[.slice A0_0 l0_0.length c0_0, .slice A0_1 l0_1.length c0_1] 25 (0, 0)) (kZ BK372.out) hb); have n7_ := Aside0.mk (blk_below (g := gb391) (o := .cells #[.slice Ao39 t385.length co39, .slice Ao42 t388.length co42] 31 (0, 0)) (kZ BK391.out) hb); have n8_ := Aside0.mk (below_step bZ hb); clear HO376; clear HO379; clear HO382; clear HO387; clear HO390; clear HO394; clear BK372; clear BK391; clear HB; have HO376 := n0_; have HO379 := n1_; have HO382 := n2_; have HO387 := n3_; have HO390 := n4_; have HO394 := n5_; have BK372 := n6_; have BK391 := n7_; have HB := n8_; clear n0_ n1_ n2_ n3_ n4_ n5_ n6_ n7_ n8_; (try clear hb); (try clear hb2); (try clear hk); (try clear hi)))
       have n0_ := Aside0.mk (Kd.R_drew HO376.out)
       have n1_ := Aside0.mk (Kd.R_drew HO379.out)
       have n2_ := Aside0.mk (Kd.R_drew HO382.out)
       have n3_ := Aside0.mk (Kd.R_drew HO387.out)
       have n4_ := Aside0.mk (Kd.R_drew HO390.out)
       have n5_ := Aside0.mk (Kd.R_drew HO394.out)
       have n6_ := Aside0.mk (blk_drew BK372.out)
       have n7_ := Aside0.mk (blk_drew BK391.out)
       have n8_ := Aside0.mk (below_drew1 HB.out)
       clear HO376; clear HO379; clear HO382; clear HO387; clear HO390; clear HO394; clear BK372; clear BK391; clear HB
       have HO376 := n0_
       have HO379 := n1_
       have HO382 := n2_
       have HO387 := n3_
       have HO390 := n4_
       have HO394 := n5_
       have BK372 := n6_
       have BK391 := n7_
       have HB := n8_
       clear n0_ n1_ n2_ n3_ n4_ n5_ n6_ n7_ n8_
       refine start_ (n := 5) (S := fun w' => w'.cell? ⟨gb391, 0, none⟩ = some (.slice Ao39 t385.length co39) ∧ w'.cell? ⟨gb391, 1, none⟩ = some (.slice Ao42 t388.length co42) ∧ w'.cell? ⟨gb372, 0, none⟩ = some (.slice A0_0 l0_0.length c0_0) ∧ w'.cell? ⟨gb372, 1, none⟩ = some (.slice A0_1 l0_1.length c0_1)) (ds := []) #[false, false, false, false, false] (by kernel_rfl) rfl rfl ⟨(blk_cell BK391.out 0).trans rfl, (blk_cell BK391.out 1).trans rfl, (blk_cell BK372.out 0).trans rfl, (blk_cell BK372.out 1).trans rfl⟩ (fun hHeld => ?_)
       generalize w46.drew = w47 at HO376 HO379 HO382 HO387 HO390 HO394 BK372 BK391 HB hHeld ⊢
       refine take_ (i := 0) (N := some 54) (v := ?_) (a' := ?_) #[true, false, false, false, false] rfl rfl (by kernel_rfl) (fun _ _ _ h => h) (Or.inl ⟨by rfl, ?_⟩) hHeld ?_ ?_
       rotate_left
       ·rintro w' ⟨s0, s1, s2, s3⟩
        go_simp
        with_reducible rfl
       rotate_left
       ·simp only [Act.put, List.setIfInBounds_toArray, List.set_cons_zero, List.set_cons_succ, i64_w, i32_w]
        rfl
       refine take_ (i := 1) (N := some 55) (v := ?_) (a' := ?_) #[true, true, false, false, false] rfl rfl (by kernel_rfl) (fun _ _ _ h => h) (Or.inl ⟨by rfl, ?_⟩) hHeld ?_ ?_
       rotate_left
       ·rintro w' ⟨s0, s1, s2, s3⟩
        go_simp
        with_reducible rfl
       rotate_left
       ·simp only [Act.put, List.setIfInBounds_toArray, List.set_cons_zero, List.set_cons_succ, i64_w, i32_w]
        rfl
       refine one_ (i := 2) (N := some 56) #[true, true, true, false, false] rfl rfl (by kernel_rfl) (by decide) (fun K hK => ?_)
       refine goes_ Try.func6 (by kernel_rfl) rfl #[.agg #[.slice A0_0 l0_0.length c0_0, .slice A0_1 l0_1.length c0_1]] (by rfl) rfl rfl gZ ?_
       with_reducible refine (laws_toNetwork.calls k _ _ l0_0 _ _ l0_1 t397 t400 _ ?side1 ?side2 ?side3 ?side4 A20.out).mono ?_
       (case side1 => repeat (first | exact (Kd.C_below HR0_0.out HB.out) | (with_reducible refine Kd.C_alloc ?_ _) | (with_reducible refine Kd.C_drewN ?_ _) | (with_reducible refine Kd.C_drew ?_)))
       (case side2 => exact HC0_0.out)
       (case side3 => repeat (first | exact (Kd.C_below HR0_1.out HB.out) | (with_reducible refine Kd.C_alloc ?_ _) | (with_reducible refine Kd.C_drewN ?_ _) | (with_reducible refine Kd.C_drew ?_)))
       (case side4 => exact HC0_1.out)
       rintro e w48 ⟨v398, v401, rfl, ho0, ho1, hb⟩
       refine ⟨_, rfl, ?_⟩
       have n0_ := Aside0.mk (Kd.R_elder' (Kd.rZ HO376.out) (Kd.R_base ho0) hb)
       have n1_ := Aside0.mk (Kd.R_elder' (Kd.rZ HO379.out) (Kd.R_base ho1) hb)
       have n2_ := Aside0.mk (Kd.R_elder' (Kd.rZ HO382.out) (Kd.R_base ho0) hb)
       have n3_ := Aside0.mk (Kd.R_elder' (Kd.rZ HO387.out) (Kd.R_base ho0) hb)
       have n4_ := Aside0.mk (Kd.R_elder' (Kd.rZ HO390.out) (Kd.R_base ho1) hb)
       have n5_ := Aside0.mk (Kd.R_elder' (Kd.rZ HO394.out) (Kd.R_base ho0) hb)
       have n6_ := Aside0.mk (Kd.R_lower (Kd.R_new' (Kd.R_new' (Kd.R_new' (Kd.R_new' ho0 (Kd.R_lt (Kd.rZ HO376.out))) (Kd.R_lt (Kd.rZ HO382.out))) (Kd.R_lt (Kd.rZ HO387.out))) (Kd.R_lt (Kd.rZ HO394.out))) bsZ)
       have n7_ := Aside0.mk (Kd.R_lower (Kd.R_new' (Kd.R_new' ho1 (Kd.R_lt (Kd.rZ HO379.out))) (Kd.R_lt (Kd.rZ HO390.out))) bsZ)
       have n8_ := Aside0.mk (blk_below (g := gb372) (o := .cells #[.slice A0_0 l0_0.length c0_0, .slice A0_1 l0_1.length c0_1] 25 (0, 0)) (kZ BK372.out) hb)
       have n9_ := Aside0.mk (blk_below (g := gb391) (o := .cells #[.slice Ao39 t385.length co39, .slice Ao42 t388.length co42] 31 (0, 0)) (kZ BK391.out) hb)
       have n10_ := Aside0.mk (below_step bZ hb)
       clear HO376; clear HO379; clear HO382; clear HO387; clear HO390; clear HO394; clear BK372; clear BK391; clear HB
       have HO376 := n0_
       have HO379 := n1_
       have HO382 := n2_
       have HO387 := n3_
       have HO390 := n4_
       have HO394 := n5_
       have HO399 := n6_
       have HO402 := n7_
       have BK372 := n8_
       have BK391 := n9_
       have HB := n10_
       clear n0_ n1_ n2_ n3_ n4_ n5_ n6_ n7_ n8_ n9_ n10_
       (try clear hb)
       (try clear hb2)
       (try clear hk)
       (try clear hi)
       (try clear ho0)
       (try clear ho1)
       obtain ⟨Ao49, co49, eo49⟩ := Kd.R_slice HO399.out
       (first | subst eo49 | (injection eo49 with f1_ f2_ f3_; have f4_ := f1_.symm; have f5_ := f3_.symm; clear f1_ f2_ f3_; subst f4_; subst f5_))
       obtain ⟨Ao50, co50, eo50⟩ := Kd.R_slice HO402.out
       (first | subst eo50 | (injection eo50 with f1_ f2_ f3_; have f4_ := f1_.symm; have f5_ := f3_.symm; clear f1_ f2_ f3_; subst f4_; subst f5_))
       refine hK.out _ _ ⟨(blk_cell BK391.out 0).trans rfl, (blk_cell BK391.out 1).trans rfl, (blk_cell BK372.out 0).trans rfl, (blk_cell BK372.out 1).trans rfl⟩ (fun hHeld => ?_)
       clear hK K
       refine norm_ (a' := ?_) ?_ ?_
       rotate_left
       ·show Act.put _ (some 56) _ = _
        simp only [Act.put, List.setIfInBounds_toArray, List.set_cons_zero, List.set_cons_succ, i64_w, i32_w]
        rfl
       refine one_ (i := 3) (N := some 57) #[true, true, true, true, false] rfl rfl (by kernel_rfl) (by decide) (fun K hK => ?_)
       refine goes_ Try.func9 (by kernel_rfl) rfl #[.agg #[.slice Ao39 t385.length co39, .slice Ao42 t388.length co42], .agg #[.slice Ao49 t397.length co49, .slice Ao50 t400.length co50]] (by rfl) rfl rfl gZ ?_
       with_reducible refine (laws_eqNetwork.calls k _ _ t385 _ _ t388 _ _ t397 _ _ t400 true _ ?side1 ?side2 ?side3 ?side4 ?side5 ?side6 ?side7 ?side8 A21.out).mono ?_
       (case side1 => exact Kd.cZ HO387.out)
       (case side2 => exact (Kd.R_reads' HO387.out).2.1)
       (case side3 => exact Kd.cZ HO390.out)
       (case side4 => exact (Kd.R_reads' HO390.out).2.1)
       (case side5 => exact Kd.cZ HO399.out)
       (case side6 => exact (Kd.R_reads' HO399.out).2.1)
       (case side7 => exact Kd.cZ HO402.out)
       (case side8 => exact (Kd.R_reads' HO402.out).2.1)
       rintro e w51 ⟨rfl, hb⟩
       refine ⟨_, rfl, ?_⟩
       have n0_ := Aside0.mk (Kd.R_below (Kd.rZ HO376.out) hb)
       have n1_ := Aside0.mk (Kd.R_below (Kd.rZ HO379.out) hb)
       have n2_ := Aside0.mk (Kd.R_below (Kd.rZ HO382.out) hb)
       have n3_ := Aside0.mk (Kd.R_below (Kd.rZ HO387.out) hb)
       have n4_ := Aside0.mk (Kd.R_below (Kd.rZ HO390.out) hb)
       have n5_ := Aside0.mk (Kd.R_below (Kd.rZ HO394.out) hb)
       have n6_ := Aside0.mk (Kd.R_below (Kd.rZ HO399.out) hb)
       have n7_ := Aside0.mk (Kd.R_below (Kd.rZ HO402.out) hb)
       have n8_ := Aside0.mk (blk_below (g := gb372) (o := .cells #[.slice A0_0 l0_0.length c0_0, .slice A0_1 l0_1.length c0_1] 25 (0, 0)) (kZ BK372.out) hb)
       have n9_ := Aside0.mk (blk_below (g := gb391) (o := .cells #[.slice Ao39 t385.length co39, .slice Ao42 t388.length co42] 31 (0, 0)) (kZ BK391.out) hb)
       have n10_ := Aside0.mk (below_step bZ hb)
       clear HO376; clear HO379; clear HO382; clear HO387; clear HO390; clear HO394; clear HO399; clear HO402; clear BK372; clear BK391; clear HB
       have HO376 := n0_
       have HO379 := n1_
       have HO382 := n2_
       have HO387 := n3_
       have HO390 := n4_
       have HO394 := n5_
       have HO399 := n6_
       have HO402 := n7_
       have BK372 := n8_
       have BK391 := n9_
       have HB := n10_
       clear n0_ n1_ n2_ n3_ n4_ n5_ n6_ n7_ n8_ n9_ n10_
       (try clear hb)
       (try clear hb2)
       (try clear hk)
       (try clear hi)
       refine hK.out _ _ ⟨(blk_cell BK391.out 0).trans rfl, (blk_cell BK391.out 1).trans rfl, (blk_cell BK372.out 0).trans rfl, (blk_cell BK372.out 1).trans rfl⟩ (fun hHeld => ?_)
       clear hK K
       refine norm_ (a' := ?_) ?_ ?_
       rotate_left
       ·show Act.put _ (some 57) _ = _
        simp only [Act.put, List.setIfInBounds_toArray, List.set_cons_zero, List.set_cons_succ, i64_w, i32_w]
        rfl
       refine puY 4 (some 58) #[true, true, true, true, true] rfl rfl ?_
       refine done_ (by kernel_rfl) ?_
       try go_wp2_with (first | ((with_reducible refine gate_callee (f := 7) rfl ?_); refine goesL_ (some 61) rfl rfl Try.func7 (by kernel_rfl) rfl #[.slice A2 l2.length c2] rfl gZ ?_; (with_reducible refine (laws_toInt64S.calls k _ _ l2 t404 _ ?side1 ?side2 A23.out).mono ?_); (case side1 => repeat (first | exact (Kd.C_below HR2.out HB.out) | (with_reducible refine Kd.C_alloc ?_ _) | (with_reducible refine Kd.C_drewN ?_ _) | (with_reducible refine Kd.C_drew ?_))); (case side2 => exact HC2.out); rintro e w52 ⟨v405, rfl, ho0, hb⟩; refine ⟨_, rfl, ?_⟩; have n0_ := Aside0.mk (Kd.R_elder' (Kd.rZ HO376.out) (Kd.R_base ho0) hb); have n1_ := Aside0.mk (Kd.R_below (Kd.rZ HO379.out) hb); have n2_ := Aside0.mk (Kd.R_elder' (Kd.rZ HO382.out) (Kd.R_base ho0) hb); have n3_ := Aside0.mk (Kd.R_elder' (Kd.rZ HO387.out) (Kd.R_base ho0) hb); have n4_ := Aside0.mk (Kd.R_below (Kd.rZ HO390.out) hb); have n5_ := Aside0.mk (Kd.R_elder' (Kd.rZ HO394.out) (Kd.R_base ho0) hb); have n6_ := Aside0.mk (Kd.R_elder' (Kd.rZ HO399.out) (Kd.R_base ho0) hb); have n7_ := Aside0.mk (Kd.R_below (Kd.rZ HO402.out) hb); have n8_ := Aside0.mk (Kd.R_lower (Kd.R_new' (Kd.R_new' (Kd.R_new' (Kd.R_new' (Kd.R_new' ho0 (Kd.R_lt (Kd.rZ HO376.out))) (Kd.R_lt (Kd.rZ HO382.out))) (Kd.R_lt (Kd.rZ HO387.out))) (Kd.R_lt (Kd.rZ HO394.out))) (Kd.R_lt (Kd.rZ HO399.out))) bsZ); have n9_ := Aside0.mk (blk_below (g := gb372) (o := .cells #[.slice A0_0 l0_0.length c0_0, .slice A0_1 l0_1.length c0_1] 25 (0, 0)) (kZ BK372.out) hb); have n10_ := Aside0.mk (blk_below (g := gb391) (o := .cells #[.slice Ao39 t385.length co39, .slice Ao42 t388.length co42] 31 (0, 0)) (kZ BK391.out) hb); have n11_ := Aside0.mk (below_step bZ hb); clear HO376; clear HO379; clear HO382; clear HO387; clear HO390; clear HO394; clear HO399; clear HO402; clear BK372; clear BK391; clear HB; have HO376 := n0_; have HO379 := n1_; have HO382 := n2_; have HO387 := n3_; have HO390 := n4_; have HO394 := n5_; have HO399 := n6_; have HO402 := n7_; have HO406 := n8_; have BK372 := n9_; have BK391 := n10_; have HB := n11_; clear n0_ n1_ n2_ n3_ n4_ n5_ n6_ n7_ n8_ n9_ n10_ n11_; (try clear hb); (try clear hb2); (try clear hk); (try clear hi); (try clear ho0); obtain ⟨Ao53, co53, eo53⟩ := Kd.R_slice HO406.out; subst eo53) | ((with_reducible refine gate_callee (f := 10) rfl ?_); refine goesL_ (some 62) rfl rfl Try.func10 (by kernel_rfl) rfl #[.slice Ao45 t392.length co45, .slice Ao53 t404.length co53] rfl gZ ?_; (with_reducible refine (laws_eqInt64S.calls k _ _ t392 _ _ t404 true _ ?side1 ?side2 ?side3 ?side4 A24.out).mono ?_); (case side1 => exact Kd.cZ HO394.out); (case side2 => exact (Kd.R_reads' HO394.out).2.1); (case side3 => exact Kd.cZ HO406.out); (case side4 => exact (Kd.R_reads' HO406.out).2.1); rintro e w' ⟨rfl, ⟨nd, rfl⟩⟩; refine ⟨_, rfl, ?_⟩))
       go_ret
       exact ⟨eZ, bZ⟩
      ·replace c25 := Bool.eq_false_iff.mpr c25
       subst c25
       have H1 : (none) = some r := by rw [if_neg (show ¬ (false = true) by decide)] at H; exact H
       clear H
       have H := H1
       clear H1
       exact absurd H (by simp)
     ·replace c22 := Bool.eq_false_iff.mpr c22
      subst c22
      have H1 : (none) = some r := by rw [if_neg (show ¬ (false = true) by decide)] at H; exact H
      clear H
      have H := H1
      clear H1
      exact absurd H (by simp)
    ·rw [if_neg c19] at H
     exact absurd H (by simp)
   ·rw [if_neg c18] at H
    exact absurd H (by simp)
end Go.Proofs.Ythnhchpgpnaamaa.XG
end

section
namespace Go.Proofs.Ythnhchpgpnaamaa.Open
open Go.ChangeShapes Go.WideShapes Go.RowKit Go.Proofs.YthnhchpgpnaamaaW.PrintWords
set_option linter.unusedVariables false
def Opens (P : Program) (t : TypeId) {α : Type} (d : Kd α) (Q : α → Prop) : Prop :=
  P.cellsOf t = d.sz ∧ ∀ (H : Type) (enc : TypeId × Value → H) (w : World) (base : Nat) (spare : Nat → Bool) (held : Bool) (fuel : Nat) (cs : List Value) (x : DataW H × List MemPlace),
    DataW.trod enc P w base spare held fuel t cs = some x → ∃ a : α, d.K w a cs ∧ Q a
theorem Opens.int {P : Program} {t : TypeId} {k : IntKind} (hu : P.underlying t = some (.int k)) (hc : P.cellsOf t = 1) : Opens P t (Kd.int k) (fun n => (Lit.int k n).wf = true) := by
  refine ⟨hc, fun H enc w base spare held fuel cs x h => ?_⟩
  obtain ⟨n, rfl, _, hw⟩ := DataW.trod_int hu h
  exact ⟨n, rfl, hw⟩
theorem Opens.bool {P : Program} {t : TypeId} (hu : P.underlying t = some .bool) (hc : P.cellsOf t = 1) : Opens P t Kd.bool (fun _ => True) := by
  refine ⟨hc, fun H enc w base spare held fuel cs x h => ?_⟩
  obtain ⟨b, rfl, _⟩ := DataW.trod_bool hu h
  exact ⟨b, rfl, trivial⟩
theorem Opens.string {P : Program} {t : TypeId} (hu : P.underlying t = some .string) (hc : P.cellsOf t = 1) : Opens P t Kd.string (fun s => s.size ≤ maxLen) := by
  refine ⟨hc, fun H enc w base spare held fuel cs x h => ?_⟩
  obtain ⟨s, rfl, _, hs⟩ := DataW.trod_string hu h
  exact ⟨s, rfl, hs⟩
theorem choose_list {α : Type} {n : Nat} {p : Nat → α → Prop} (h : ∀ i, i < n → ∃ x, p i x) : ∃ l : List α, l.length = n ∧ ∀ i x, l[i]? = some x → p i x := by
  induction n with
  | zero => exact ⟨[], rfl, fun i x hx => by simp at hx⟩
  | succ n ih =>
    obtain ⟨l, hl, hp⟩ := ih (fun i hi => h i (by omega))
    obtain ⟨x, hx⟩ := h n (by omega)
    refine ⟨l ++ [x], by simp [hl], fun i y hy => ?_⟩
    rcases Nat.lt_or_ge i l.length with hi | hi
    · rw [List.getElem?_append_left hi] at hy
      exact hp i y hy
    · have : i = l.length := by
        have := (List.getElem?_eq_some_iff.1 hy).1
        simp at this
        omega
      subst this
      simp at hy
      subst hy
      rw [hl]
      exact hx
theorem cells?_get {w : World} {base : Nat} {a : Addr} {n : Nat} {cs : List Value} (h : w.cells? base a n = some cs) (i : Nat) (u : Value) (hu : cs[i]? = some u) : w.cell? (a.add i) = some u := by
  unfold World.cells? at h
  split at h
  · have hlen : cs.length = n := by simpa using mapM_some_length h
    have hi : i < n := by
      have := (List.getElem?_eq_some_iff.1 hu).1
      omega
    have := mapM_some_get h i i (by simp [hi])
    rw [hu] at this
    exact this
  · cases h
theorem Opens.slice {P : Program} {t e : TypeId} {α : Type} {d : Kd α} {Q : α → Prop} (hu : P.underlying t = some (.slice e)) (hc : P.cellsOf t = 1) (hd : Opens P e d Q) :
    Opens P t (Kd.slice e d) (fun xs => xs.length ≤ maxLen ∧ ∀ x ∈ xs, Q x) := by
  refine ⟨hc, fun H enc w base spare held fuel cs x h => ?_⟩
  rcases Go.Deep.open_slice hu h with ⟨rfl, _⟩ | ⟨a, len, cap, m, n, D, Pl, rfl, _, hl, hm, hmm, _, hx⟩
  · exact ⟨[], ⟨none, 0, rfl, Nat.le_refl _, rfl, by simp, fun h => absurd h (by simp)⟩, by simp, fun x hx => by simp at hx⟩
  · have hlm : len ≤ m := by rw [hmm]; split <;> omega
    obtain ⟨l, hl1, hp⟩ := choose_list (n := len) (p := fun i (x : α) => ∃ cs', w.cells? base (a.add (i * d.sz)) d.sz = some cs' ∧ d.K w x cs' ∧ Q x) (fun i hi => by
      obtain ⟨cs', h1, h2⟩ := hx i (by omega)
      rw [hd.1] at h1
      obtain ⟨y, hy, hq⟩ := hd.2 H enc w base spare held n cs' _ h2
      exact ⟨y, cs', h1, hy, hq⟩)
    have hmax : (maxLen : Nat) = 9223372036854775807 := by unfold maxLen; omega
    refine ⟨l, ⟨some a, cap, by rw [hl1], by omega, rfl, by omega, fun _ => ⟨a, rfl, fun j p hj => ?_⟩⟩, by omega, fun x hx => ?_⟩
    · obtain ⟨cs', h1, h2, _⟩ := hp j p hj
      refine ⟨cs', d.K_len h2, h2, fun i u hi => ?_⟩
      have := cells?_get h1 i u hi
      rwa [Go.Deep.add_add] at this
    · obtain ⟨i, hi, rfl⟩ := List.mem_iff_getElem.1 hx
      obtain ⟨cs', _, _, h3⟩ := hp i _ (List.getElem?_eq_getElem hi)
      exact h3
def OpensF (P : Program) (fs : List Field) (off : Nat) {α : Type} (d : Kd α) (Q : α → Prop) : Prop :=
  ∀ (H : Type) (enc : TypeId × Value → H) (w : World) (base : Nat) (spare : Nat → Bool) (held : Bool) (n : Nat) (cs : List Value), off + d.sz = cs.length →
    (∀ f ∈ fs, ∃ y, DataW.trod enc P w base spare held n f.type ((cs.drop f.offset).take (P.cellsOf f.type)) = some y) → ∃ a : α, d.K w a (cs.drop off) ∧ Q a
theorem OpensF.one {P : Program} {f : Field} {off : Nat} {α : Type} {d : Kd α} {Q : α → Prop} (ho : f.offset = off) (h : Opens P f.type d Q) : OpensF P [f] off d Q := by
  intro H enc w base spare held n cs hl hf
  obtain ⟨y, hy⟩ := hf f List.mem_cons_self
  rw [ho, h.1, List.take_of_length_le (by rw [List.length_drop]; omega)] at hy
  exact h.2 H enc w base spare held n _ y hy
theorem OpensF.cons {P : Program} {f : Field} {fs : List Field} {off : Nat} {α β : Type} {d1 : Kd α} {d2 : Kd β} {Q1 : α → Prop} {Q2 : β → Prop} (ho : f.offset = off) (h : Opens P f.type d1 Q1) (hs : OpensF P fs (off + d1.sz) d2 Q2) :
    OpensF P (f :: fs) off (Kd.pair d1 d2) (fun x => Q1 x.1 ∧ Q2 x.2) := by
  intro H enc w base spare held n cs hl hf
  have hl' : off + (d1.sz + d2.sz) = cs.length := hl
  obtain ⟨y, hy⟩ := hf f List.mem_cons_self
  rw [ho, h.1] at hy
  obtain ⟨a, ha, qa⟩ := h.2 H enc w base spare held n _ y hy
  obtain ⟨b, hb, qb⟩ := hs H enc w base spare held n cs (by omega) (fun g hg => hf g (List.mem_cons_of_mem _ hg))
  refine ⟨(a, b), ⟨_, _, ?_, ha, hb⟩, qa, qb⟩
  rw [← List.drop_drop, List.take_append_drop]
theorem Opens.struct {P : Program} {t : TypeId} {fs : Array Field} {α β : Type} {d : Kd α} {Q : α → Prop} (f : β → α) (g : α → β) (hfg : ∀ x, f (g x) = x) (hu : P.underlying t = some (.struct fs)) (hc : P.cellsOf t = d.sz) (h : OpensF P fs.toList 0 d Q) :
    Opens P t (Kd.iso d f) (fun x => Q (f x)) := by
  refine ⟨hc, fun H enc w base spare held fuel cs x hx => ?_⟩
  obtain ⟨xs, n, rfl, _, hl, hxs, hf⟩ := DataW.trod_struct hu hx
  obtain ⟨a, ha, qa⟩ := h H enc w base spare held n cs (by omega) (fun f hf0 => by
    obtain ⟨i, hi, rfl⟩ := List.mem_iff_getElem.1 hf0
    have hi' : i < fs.size := by simpa using hi
    have := hf i fs[i] (Array.getElem?_eq_getElem hi')
    rw [List.getElem?_eq_getElem (by omega)] at this
    exact ⟨_, by simpa using this⟩)
  refine ⟨g a, ?_, ?_⟩
  · show d.K w (f (g a)) cs
    rw [hfg]
    simpa using ha
  · show Q (f (g a))
    rw [hfg]
    exact qa
theorem open_sl {H : Type} {enc : TypeId × Value → H} {P : Program} {W : World} {base B : Nat} {spare : Nat → Bool} {held : Bool} {t e : TypeId} {v : Value} {dd : DataW H} {ps : List MemPlace} {α : Type} {d : Kd α} {Q : α → Prop}
    (hu : P.underlying t = some (.slice e)) (hc : P.cellsOf t = 1) (hd : Opens P e d Q) (hv : Value.okWide P W .any B t v) (h : DataW.Trod enc P W base spare held t v dd ps) :
    ∃ (A : Option Addr) (c : Nat) (l : List α), v = .slice A l.length c ∧ l.length ≤ c ∧ Kd.C d W A l.length l ∧ l.length ≤ maxLen ∧ ∀ x ∈ l, Q x := by
  obtain ⟨a0, len, cap, rfl⟩ := okWide_slice hu hv
  obtain ⟨fuel, hf⟩ := h
  obtain ⟨l, ⟨A, c, he, hl, hC⟩, hm, hq⟩ := (Opens.slice hu hc hd).2 H enc W base spare held fuel _ _ hf
  refine ⟨A, c, l, ?_, hl, hC, hm, hq⟩
  simpa [Value.cells] using he
theorem open_st {H : Type} {enc : TypeId × Value → H} {P : Program} {W : World} {base B : Nat} {spare : Nat → Bool} {held : Bool} {t : TypeId} {fs : Array Field} {v : Value} {dd : DataW H} {ps : List MemPlace} {α : Type} {d : Kd α} {Q : α → Prop}
    (hu : P.underlying t = some (.struct fs)) (hd : Opens P t d Q) (hv : Value.okWide P W .any B t v) (h : DataW.Trod enc P W base spare held t v dd ps) :
    ∃ (cs : List Value) (x : α), v = .agg cs.toArray ∧ d.K W x cs ∧ Q x := by
  obtain ⟨cs, rfl, _⟩ := okWide_struct hu hv
  obtain ⟨fuel, hf⟩ := h
  obtain ⟨x, hK, hq⟩ := hd.2 H enc W base spare held fuel _ _ hf
  exact ⟨cs.toList, x, by simp, by simpa [Value.cells] using hK, hq⟩
end Go.Proofs.Ythnhchpgpnaamaa.Open
end

section
namespace Go.Proofs.Ythnhchpgpnaamaa.XG
open Go.RowKit Go.Proofs.YthnhchpgpnaamaaW.PrintWords Go.Proofs.Ythnhchpgpnaamaa.Open
set_option linter.unusedVariables false
def Q64 (x : S64) : Prop := (x.f0.size ≤ maxLen) ∧ ((Lit.int .i64 x.f1).wf = true) ∧ ((Lit.int .i64 x.f2).wf = true) ∧ ((Lit.int .i64 x.f3).wf = true) ∧ ((Lit.int .i64 x.f4).wf = true) ∧ ((Lit.int .i64 x.f5).wf = true)
theorem opens64 : Opens Try.prog 64 k64 Q64 := Opens.struct (fun x : S64 => (x.f0, x.f1, x.f2, x.f3, x.f4, x.f5)) (fun p => (⟨p.1, p.2.1, p.2.2.1, p.2.2.2.1, p.2.2.2.2.1, p.2.2.2.2.2⟩ : S64)) (fun _ => rfl) Try.underlying64 (by kernel_rfl) (OpensF.cons rfl (Opens.string Try.underlying9 (by kernel_rfl)) (OpensF.cons rfl (Opens.int Try.underlying2 (by kernel_rfl)) (OpensF.cons rfl (Opens.int Try.underlying2 (by kernel_rfl)) (OpensF.cons rfl (Opens.int Try.underlying2 (by kernel_rfl)) (OpensF.cons rfl (Opens.int Try.underlying2 (by kernel_rfl)) (OpensF.one rfl (Opens.int Try.underlying2 (by kernel_rfl))))))))
def Q25 (x : S25) : Prop := ((x.f0.length ≤ maxLen ∧ ∀ y4 ∈ x.f0, (Lit.int .i64 y4).wf = true)) ∧ ((x.f1.length ≤ maxLen ∧ ∀ y4 ∈ x.f1, Q64 y4))
theorem opens25 : Opens Try.prog 25 k25 Q25 := Opens.struct (fun x : S25 => (x.f0, x.f1)) (fun p => (⟨p.1, p.2⟩ : S25)) (fun _ => rfl) Try.underlying25 (by kernel_rfl) (OpensF.cons rfl (Opens.slice Try.underlying22 (by kernel_rfl) (Opens.int Try.underlying2 (by kernel_rfl))) (OpensF.one rfl (Opens.slice Try.underlying23 (by kernel_rfl) opens64)))
end Go.Proofs.Ythnhchpgpnaamaa.XG
end

section
namespace Go.Proofs.Ythnhchpgpnaamaa.XG
open Go.RowKit Go.Proofs.YthnhchpgpnaamaaW.PrintWords
def laws_FnExactDelayTo.Pure : Prop := ∀ (a0 : S25), ∀ (a1 : Int), ∀ (a2 : List Int), ∀ (a3 : Int), (Q25 a0) → ((Lit.int .i64 a1).wf = true) → ((a2.length ≤ maxLen ∧ ∀ y2 ∈ a2, (Lit.int .i64 y2).wf = true)) → ((Lit.int .i64 a3).wf = true) → ∃ k, laws_FnExactDelayTo.f k a0.f0 a0.f1 a1 a2 a3 = some true
end Go.Proofs.Ythnhchpgpnaamaa.XG
end

section
namespace Go.Proofs.Ythnhchpgpnaamaa.EvK
open Go.RowKit Go.Proofs.YthnhchpgpnaamaaW.PrintWords
set_option linter.unusedVariables false
theorem w64 {n : Int} (h : -9223372036854775808 ≤ n) (h' : n ≤ 9223372036854775807) : wrap64 n = n := by unfold wrap64; omega
theorem Ev.some {α : Type} {a r : α} (h : a = r) : Ev (fun _ => Option.some a) r := h ▸ Ev.now a
theorem Ev.bind_some {α β : Type} {g : Nat → Option α} {f : Nat → α → Option β} {a : α} {r : β} (h : Ev g a) (k : Ev (fun n => f n a) r) : Ev (fun n => (g n).bind (f n)) r := Ev.bind h k
theorem getD_at {α : Type} (l : List α) (d : α) (i : Nat) (h : i < l.length) : l.getD (i : Int).toNat d = l[i] := by
  simp [List.getD_eq_getElem?_getD, List.getElem?_eq_getElem h]
theorem rd_at (l : List Int) (i : Nat) (h : i < l.length) : rd l (i : Int) = l[i] := getD_at l 0 i h
theorem map_done {α β : Type} (f : α → β) (l : List α) (z : β) (i : Nat) (h : i < l.length) :
    ((l.take i).map f ++ List.replicate (l.length - i) z).set i (f l[i]) = (l.take (i + 1)).map f ++ List.replicate (l.length - (i + 1)) z := by
  have e : l.length - i = (l.length - (i + 1)) + 1 := by omega
  rw [List.set_append_right _ _ (by simp; omega), e, List.replicate_succ]
  have e2 : i - ((l.take i).map f).length = 0 := by simp; omega
  rw [e2, List.set_cons_zero, List.take_succ_eq_append_getElem h, List.map_append]
  simp
theorem done_len {α β : Type} (f : α → β) (l : List α) (z : β) (i : Nat) (h : i ≤ l.length) : ((l.take i).map f ++ List.replicate (l.length - i) z).length = l.length := by simp; omega
def EvP {α : Type} (g : Nat → Option α) (P : α → Prop) : Prop := ∃ r, Ev g r ∧ P r
theorem EvP.now {α : Type} {r : α} {P : α → Prop} (h : P r) : EvP (fun _ => Option.some r) P := ⟨r, Ev.now r, h⟩
theorem EvP.of {α : Type} {g : Nat → Option α} {r : α} {P : α → Prop} (h : Ev g r) (hp : P r) : EvP g P := ⟨r, h, hp⟩
theorem EvP.mono {α : Type} {g : Nat → Option α} {P Q : α → Prop} (h : EvP g P) (hp : ∀ r, P r → Q r) : EvP g Q := by
  obtain ⟨r, h1, h2⟩ := h
  exact ⟨r, h1, hp _ h2⟩
theorem EvP.eq {α : Type} {g : Nat → Option α} {r : α} (h : EvP g (· = r)) : Ev g r := by
  obtain ⟨r', h, rfl⟩ := h
  exact h
theorem EvP.step {α : Type} {g f : Nat → Option α} {P : α → Prop} (h : ∀ k, g (k + 1) = f k) (k : EvP f P) : EvP g P := by
  obtain ⟨r, h1, h2⟩ := k
  exact ⟨r, Ev.step h h1, h2⟩
theorem EvP.bind {α β : Type} {g : Nat → Option α} {f : Nat → α → Option β} {a : α} {P : β → Prop} (h : Ev g a) (k : EvP (fun n => f n a) P) : EvP (fun n => (g n).bind (f n)) P := by
  obtain ⟨r, h1, h2⟩ := k
  exact ⟨r, Ev.bind h h1, h2⟩
theorem EvP.bindP {α β : Type} {g : Nat → Option α} {f : Nat → α → Option β} {Q : α → Prop} {P : β → Prop} (h : EvP g Q) (k : ∀ a, Q a → EvP (fun n => f n a) P) : EvP (fun n => (g n).bind (f n)) P := by
  obtain ⟨a, ha, hq⟩ := h
  exact EvP.bind ha (k a hq)
theorem EvP.rounds {α : Type} {g : Nat → Option α} {r : α} (h : EvP g (· = r)) : ∃ k, g k = Option.some r := Ev.rounds (EvP.eq h)
theorem for_evp {σ ρ : Type} {L : Nat → σ → Int → Option ρ} {Post : ρ → Prop} (n : Nat) (inv : Nat → σ → Prop)
    (step : ∀ (i : Nat) (s : σ), i < n → inv i s → (∀ s', inv (i + 1) s' → EvP (fun k => L k s' ((i : Int) + 1)) Post) → EvP (fun k => L k s i) Post)
    (fin : ∀ s, inv n s → EvP (fun k => L k s n) Post) (s : σ) (h0 : inv 0 s) : EvP (fun k => L k s 0) Post := by
  have key : ∀ (d i : Nat) (s : σ), i + d = n → inv i s → EvP (fun k => L k s i) Post := by
    intro d
    induction d with
    | zero =>
      intro i s hi hs
      obtain rfl : i = n := by omega
      exact fin s hs
    | succ d ih =>
      intro i s hi hs
      refine step i s (by omega) hs (fun s' hs' => ?_)
      simpa using ih (i + 1) s' (by omega) hs'
  simpa using key n 0 s (by omega) h0
theorem take_all {α : Type} {p : α → Prop} {l : List α} {i : Nat} (h : i < l.length) (hs : ∀ x ∈ l.take i, p x) (hx : p l[i]) : ∀ x ∈ l.take (i + 1), p x := by
  rw [List.take_succ_eq_append_getElem h]
  intro x hm
  rcases List.mem_append.1 hm with hm | hm
  · exact hs x hm
  · rw [List.mem_singleton.1 hm]
    exact hx
theorem all_ev {α : Type} {L : Nat → Int → Option Bool} (l : List α) (p : α → Bool) (b : Bool)
    (step : ∀ (i : Nat) (h : i < l.length), p l[i] = true → ∀ P, EvP (fun k => L k ((i : Int) + 1)) P → EvP (fun k => L k i) P)
    (stop : ∀ (i : Nat) (h : i < l.length), p l[i] = false → Ev (fun k => L k i) false)
    (fin : Ev (fun k => L k l.length) b) : Ev (fun k => L k 0) (l.all p && b) := by
  apply EvP.eq
  refine for_evp (L := fun k (_ : Unit) i => L k i) l.length (fun i _ => ∀ x ∈ l.take i, p x = true) ?_ ?_ () (by simp)
  · intro i _ hi hs K
    cases hp : p l[i] with
    | true => exact step i hi hp _ (K () (take_all hi hs hp))
    | false =>
      have e : l.all p = false := by
        rw [List.all_eq_false]
        exact ⟨l[i], List.getElem_mem hi, by simp [hp]⟩
      rw [e]
      exact EvP.of (stop i hi hp) rfl
  · intro _ hs
    have e : l.all p = true := by
      rw [List.all_eq_true]
      simpa using hs
    rw [e]
    exact EvP.of fin rfl
theorem bytes_at_ (s : ByteArray) (i : Nat) (h : i < s.data.toList.length) : bt s (i : Int) = ((s.data.toList[i]).toNat : Int) := by
  have h' : i < s.size := by simpa using h
  unfold bt
  rw [dif_pos (by simpa using h')]
  simp
  rfl
theorem size_len (s : ByteArray) : (s.size : Int) = (s.data.toList.length : Int) := by simp
theorem size_len' (s : ByteArray) : s.size = s.data.toList.length := by simp
end Go.Proofs.Ythnhchpgpnaamaa.EvK
end

section
namespace Go.Proofs.Ythnhchpgpnaamaa.PBasics
open Go.RowKit Go.Proofs.YthnhchpgpnaamaaW.PrintWords Go.Proofs.Ythnhchpgpnaamaa.XG Go.Proofs.Ythnhchpgpnaamaa.EvK
set_option linter.unusedVariables false
set_option linter.unusedSimpArgs false
def smallB (c : UInt8) : Bool := decide (97 ≤ (c.toNat : Int)) && decide ((c.toNat : Int) ≤ 122)
def digB (c : UInt8) : Bool := decide (48 ≤ (c.toNat : Int)) && decide ((c.toNat : Int) ≤ 57)
def nameB (c : UInt8) : Bool := smallB c || digB c
def nameOk (s : ByteArray) : Bool := match s.data.toList with
  | [] => false
  | c :: l => decide ((s.size : Int) ≤ 10) && smallB c && (c :: l).all nameB
def inR (n a b : Int) : Bool := decide (a ≤ n) && decide (n ≤ b)
theorem within_eq (n a b : Int) : impl_within.f n a b = some (inR n a b) := by
  unfold impl_within.f inR
  by_cases h : n ≥ a
  · rw [if_pos h, decide_eq_true (show a ≤ n from h), Bool.true_and]
  · rw [if_neg h, decide_eq_false (show ¬ a ≤ n from h), Bool.false_and]
theorem in_eq (n a b : Int) : spec_l00In.f n a b = some (inR n a b) := by
  unfold spec_l00In.f inR
  by_cases h : n ≥ a
  · rw [if_pos h, decide_eq_true (show a ≤ n from h), Bool.true_and]
  · rw [if_neg h, decide_eq_false (show ¬ a ≤ n from h), Bool.false_and]
theorem small_eq (c : UInt8) : spec_l01Small.f (c.toNat : Int) = some (smallB c) := by
  unfold spec_l01Small.f smallB
  by_cases h : (c.toNat : Int) ≥ 97
  · rw [if_pos h, decide_eq_true (show (97 : Int) ≤ c.toNat from h), Bool.true_and]
  · rw [if_neg h, decide_eq_false (show ¬ (97 : Int) ≤ c.toNat from h), Bool.false_and]
theorem dig_eq (c : UInt8) : spec_l01Digit.f (c.toNat : Int) = some (digB c) := by
  unfold spec_l01Digit.f digB
  by_cases h : (c.toNat : Int) ≥ 48
  · rw [if_pos h, decide_eq_true (show (48 : Int) ≤ c.toNat from h), Bool.true_and]
  · rw [if_neg h, decide_eq_false (show ¬ (48 : Int) ≤ c.toNat from h), Bool.false_and]
theorem onlyName_ev (s : ByteArray) (h : s.size ≤ 1048576) : Ev (fun k => impl_onlyNameBytes.f k s) (s.data.toList.all nameB) := by
  unfold impl_onlyNameBytes.f
  rw [size_len'] at h
  have := all_ev (L := fun k i => impl_onlyNameBytes.l0 k s (s.size : Int) i) s.data.toList nameB true ?_ ?_ ?_
  · simpa using this
  · intro i hi hp P K
    refine EvP.step (fun k => impl_onlyNameBytes.l0.eq_2 _ _ _ k) ?_
    simp only [size_len] at K
    simp only [size_len, if_pos (show (i : Int) < (s.data.toList.length : Int) by omega), if_pos (show (0 : Int) ≤ (i : Int) by omega), bytes_at_ s i hi, w64 (show -9223372036854775808 ≤ (i : Int) + 1 by omega) (by omega)]
    simp only [nameB, smallB, digB, Bool.or_eq_true, Bool.and_eq_true, decide_eq_true_eq] at hp
    by_cases h1 : ((s.data.toList[i]).toNat : Int) < 97
    · simp only [if_pos h1, if_neg (show ¬ ((s.data.toList[i]).toNat : Int) < 48 by omega), if_neg (show ¬ ((s.data.toList[i]).toNat : Int) > 57 by omega)]
      exact K
    · simp only [if_neg h1, if_neg (show ¬ ((s.data.toList[i]).toNat : Int) > 122 by omega)]
      exact K
  · intro i hi hp
    refine Ev.step (fun k => impl_onlyNameBytes.l0.eq_2 _ _ _ k) ?_
    simp only [size_len, if_pos (show (i : Int) < (s.data.toList.length : Int) by omega), if_pos (show (0 : Int) ≤ (i : Int) by omega), bytes_at_ s i hi, w64 (show -9223372036854775808 ≤ (i : Int) + 1 by omega) (by omega)]
    simp only [nameB, smallB, digB, Bool.or_eq_false_iff, Bool.and_eq_false_iff, decide_eq_false_iff_not] at hp
    by_cases h1 : ((s.data.toList[i]).toNat : Int) < 97
    · by_cases h2 : ((s.data.toList[i]).toNat : Int) < 48
      · simp only [if_pos h1, if_pos h2]; exact Ev.now _
      · simp only [if_pos h1, if_neg h2, if_pos (show ((s.data.toList[i]).toNat : Int) > 57 by omega)]; exact Ev.now _
    · simp only [if_neg h1, if_pos (show ((s.data.toList[i]).toNat : Int) > 122 by omega), if_neg (show ¬ ((s.data.toList[i]).toNat : Int) < 48 by omega), if_pos (show ((s.data.toList[i]).toNat : Int) > 57 by omega)]
      exact Ev.now _
  · refine Ev.step (fun k => impl_onlyNameBytes.l0.eq_2 _ _ _ k) ?_
    simp only [size_len, if_neg (show ¬ (s.data.toList.length : Int) < (s.data.toList.length : Int) by omega)]
    exact Ev.now _
theorem head_at (s : ByteArray) (c : UInt8) (l : List UInt8) (hl : s.data.toList = c :: l) : bt s 0 = (c.toNat : Int) := by
  have h : 0 < s.data.toList.length := by rw [hl]; simp
  have := bytes_at_ s 0 h
  rw [show ((0 : Nat) : Int) = 0 from rfl] at this
  rw [this]
  simp only [hl, List.getElem_cons_zero]
theorem isName_ev (s : ByteArray) (h : s.size ≤ 1048576) : Ev (fun k => impl_IsName.f k s) (nameOk s) := by
  unfold impl_IsName.f nameOk
  cases hl : s.data.toList with
  | nil =>
    have hz : s.size = 0 := by rw [size_len', hl]; rfl
    simp only [hz, Int.natCast_zero, if_pos (show (0 : Int) < 1 by omega)]
    exact Ev.now _
  | cons c l =>
    have hz : s.size = l.length + 1 := by rw [size_len', hl]; rfl
    have ho := onlyName_ev s h
    rw [hl] at ho
    simp only [if_neg (show ¬ (s.size : Int) < 1 by omega), if_pos (show (0 : Int) < (s.size : Int) by omega), head_at s c l hl]
    by_cases h1 : (s.size : Int) > 10
    · simp only [if_pos h1, decide_eq_false (show ¬ (s.size : Int) ≤ 10 by omega), Bool.false_and]
      exact Ev.now _
    · simp only [if_neg h1, decide_eq_true (show (s.size : Int) ≤ 10 by omega), Bool.true_and]
      by_cases h2 : (c.toNat : Int) < 97
      · simp only [if_pos h2, smallB, decide_eq_false (show ¬ (97 : Int) ≤ c.toNat by omega), Bool.false_and]
        exact Ev.now _
      · by_cases h3 : (c.toNat : Int) > 122
        · simp only [if_neg h2, if_pos h3, smallB, decide_eq_false (show ¬ (c.toNat : Int) ≤ 122 by omega), Bool.false_and, Bool.and_false]
          exact Ev.now _
        · simp only [if_neg h2, if_neg h3, smallB, decide_eq_true (show (97 : Int) ≤ c.toNat by omega), decide_eq_true (show (c.toNat : Int) ≤ 122 by omega), Bool.true_and]
          exact Ev.bind ho (Ev.now _)
theorem toList_eq (s : ByteArray) : s.toList = s.data.toList := by
  have := Lib.toList_data s
  first | exact this | exact this.symm
theorem specName_ev (s : ByteArray) (h : s.size ≤ 1048576) : Ev (fun k => spec_l01Name.f k s) (nameOk s) := by
  unfold spec_l01Name.f nameOk
  have hj : Ev (fun k => spec_l01Name.j0 k s true) false := by
    refine Ev.step (fun k => spec_l01Name.j0.eq_2 _ _ k) ?_
    simp only [if_true]
    exact Ev.now _
  cases hl : s.data.toList with
  | nil =>
    simp only [toList_eq, hl, if_true]
    exact hj
  | cons c l =>
    have hz : s.size = l.length + 1 := by rw [size_len', hl]; rfl
    simp only [toList_eq, hl, reduceCtorEq, if_false, if_pos (show (0 : Int) < (s.size : Int) by omega), head_at s c l hl, small_eq, Option.bind_some]
    by_cases h1 : (s.size : Int) > 10
    · simp only [if_pos h1, decide_eq_false (show ¬ (s.size : Int) ≤ 10 by omega), Bool.false_and]
      exact hj
    simp only [if_neg h1, decide_eq_true (show (s.size : Int) ≤ 10 by omega), Bool.true_and]
    cases hs : smallB c with
    | false =>
      simp only [Bool.not_false, Bool.false_and]
      exact hj
    | true =>
      simp only [Bool.not_true, Bool.true_and]
      refine Ev.step (fun k => spec_l01Name.j0.eq_2 _ _ k) ?_
      simp only [Bool.false_eq_true, if_false]
      rw [← hl]
      rw [size_len'] at h
      have := all_ev (L := fun k i => spec_l01Name.l0 k s i) s.data.toList nameB true ?_ ?_ ?_
      · simpa using this
      · intro i hi hp P K
        refine EvP.step (fun k => spec_l01Name.l0.eq_2 _ _ k) ?_
        simp only [size_len, if_pos (show (i : Int) < (s.data.toList.length : Int) by omega), if_pos (show (0 : Int) ≤ (i : Int) by omega), bytes_at_ s i hi, w64 (show -9223372036854775808 ≤ (i : Int) + 1 by omega) (by omega), small_eq, dig_eq, Option.bind_some]
        cases h2 : smallB s.data.toList[i] with
        | true => simp only [if_true]; exact K
        | false =>
          simp only [nameB, h2, Bool.false_or] at hp
          simp only [hp, Bool.false_eq_true, if_false, if_true]
          exact K
      · intro i hi hp
        refine Ev.step (fun k => spec_l01Name.l0.eq_2 _ _ k) ?_
        simp only [nameB, Bool.or_eq_false_iff] at hp
        simp only [size_len, if_pos (show (i : Int) < (s.data.toList.length : Int) by omega), if_pos (show (0 : Int) ≤ (i : Int) by omega), bytes_at_ s i hi, w64 (show -9223372036854775808 ≤ (i : Int) + 1 by omega) (by omega), small_eq, dig_eq, Option.bind_some, hp.1, hp.2, Bool.false_eq_true, if_false]
        exact Ev.now _
      · refine Ev.step (fun k => spec_l01Name.l0.eq_2 _ _ k) ?_
        simp only [size_len, if_neg (show ¬ (s.data.toList.length : Int) < (s.data.toList.length : Int) by omega)]
        exact Ev.now _
end Go.Proofs.Ythnhchpgpnaamaa.PBasics
end

section
namespace Go.Proofs.Ythnhchpgpnaamaa.EvK
open Go.RowKit Go.Proofs.YthnhchpgpnaamaaW.PrintWords
set_option linter.unusedVariables false
theorem all_to {α ρ : Type} {L : Nat → Int → Option ρ} (l : List α) (p : α → Bool) (yes no : ρ)
    (step : ∀ (i : Nat) (h : i < l.length), p l[i] = true → ∀ P, EvP (fun k => L k ((i : Int) + 1)) P → EvP (fun k => L k i) P)
    (stop : ∀ (i : Nat) (h : i < l.length), p l[i] = false → Ev (fun k => L k i) no)
    (fin : l.all p = true → Ev (fun k => L k l.length) yes) : Ev (fun k => L k 0) (if l.all p = true then yes else no) := by
  apply EvP.eq
  refine for_evp (L := fun k (_ : Unit) i => L k i) l.length (fun i _ => ∀ x ∈ l.take i, p x = true) ?_ ?_ () (by simp)
  · intro i _ hi hs K
    cases hp : p l[i] with
    | true => exact step i hi hp _ (K () (take_all hi hs hp))
    | false =>
      have e : l.all p = false := by
        rw [List.all_eq_false]
        exact ⟨l[i], List.getElem_mem hi, by simp [hp]⟩
      rw [e]
      exact EvP.of (stop i hi hp) rfl
  · intro _ hs
    have e : l.all p = true := by
      rw [List.all_eq_true]
      simpa using hs
    rw [e]
    exact EvP.of (fin e) rfl
theorem all_n {ρ : Type} {L : Nat → Int → Option ρ} (n : Nat) (p : Nat → Bool) (yes no : ρ)
    (step : ∀ (i : Nat), i < n → p i = true → ∀ P, EvP (fun k => L k ((i : Int) + 1)) P → EvP (fun k => L k i) P)
    (stop : ∀ (i : Nat), i < n → p i = false → Ev (fun k => L k i) no)
    (fin : Ev (fun k => L k n) yes) : Ev (fun k => L k 0) (if (List.range n).all p = true then yes else no) := by
  have := all_to (L := L) (List.range n) p yes no ?_ ?_ ?_
  · exact this
  · intro i hi hp P K
    simp only [List.length_range, List.getElem_range] at hi hp
    exact step i hi hp P K
  · intro i hi hp
    simp only [List.length_range, List.getElem_range] at hi hp
    exact stop i hi hp
  · intro _
    simpa using fin
end Go.Proofs.Ythnhchpgpnaamaa.EvK
end

section
namespace Go.Proofs.Ythnhchpgpnaamaa.PNet
open Go.RowKit Go.Proofs.YthnhchpgpnaamaaW.PrintWords Go.Proofs.YthnhchpgpnaamaaW.PrintMore Go.Proofs.Ythnhchpgpnaamaa.XG Go.Proofs.Ythnhchpgpnaamaa.EvK Go.Proofs.Ythnhchpgpnaamaa.PBasics
set_option linter.unusedVariables false
set_option linter.unusedSimpArgs false
theorem inR_iff {n a b : Int} : inR n a b = true ↔ a ≤ n ∧ n ≤ b := by unfold inR; simp
def pipeOkV (s : ByteArray) (f t l d q : Int) : Bool := nameOk s && (inR f 0 15 && (inR t 0 15 && (!(decide (f = t)) && (inR l 1 10000 && (inR d 20 1000 && inR q 0 5000)))))
theorem nodeV_eq (n : Int) : impl_nodeOk.f n = some (inR n 0 15) := by unfold impl_nodeOk.f; rw [within_eq]; rfl
theorem validPipeV_ev (s : ByteArray) (f t l d q : Int) (h : s.size ≤ 1048576) : Ev (fun k => impl_ValidPipe.f k s f t l d q) (pipeOkV s f t l d q) := by
  unfold impl_ValidPipe.f pipeOkV
  refine Ev.bind (isName_ev s h) ?_
  simp only [nodeV_eq, within_eq, Option.bind_some]
  cases nameOk s <;> simp only [Bool.false_eq_true, if_false, if_true, Bool.false_and, Bool.true_and]
  · exact Ev.now _
  cases inR f 0 15 <;> simp only [Bool.false_eq_true, if_false, if_true, Bool.false_and, Bool.true_and]
  · exact Ev.now _
  cases inR t 0 15 <;> simp only [Bool.false_eq_true, if_false, if_true, Bool.false_and, Bool.true_and]
  · exact Ev.now _
  by_cases hft : f = t
  · simp only [if_pos hft, hft, decide_true, Bool.not_true, Bool.false_and]; exact Ev.now _
  simp only [if_neg hft, hft, decide_false, Bool.not_false, Bool.true_and]
  cases inR l 1 10000 <;> simp only [Bool.false_eq_true, if_false, if_true, Bool.false_and, Bool.true_and]
  · exact Ev.now _
  cases inR d 20 1000 <;> simp only [Bool.false_eq_true, if_false, if_true, Bool.false_and, Bool.true_and]
  · exact Ev.now _
  exact Ev.now _
theorem l03OkV_ev (s : ByteArray) (f t l d q : Int) (h : s.size ≤ 1048576) : Ev (fun k => spec_l03Ok.f k s f t l d q) (pipeOkV s f t l d q) := by
  unfold spec_l03Ok.f pipeOkV
  have hj : ∀ b : Bool, Ev (fun k => spec_l03Ok.j0 k b s f t l d q) (!b && (inR l 1 10000 && (inR d 20 1000 && inR q 0 5000))) := by
    intro b
    refine Ev.step (fun k => spec_l03Ok.j0.eq_2 _ _ _ _ _ _ _ k) ?_
    simp only [in_eq, Option.bind_some]
    cases b <;> simp only [Bool.false_eq_true, if_false, if_true, Bool.false_and, Bool.true_and, Bool.not_false, Bool.not_true]
    · cases inR l 1 10000 <;> simp only [Bool.false_eq_true, if_false, if_true, Bool.false_and, Bool.true_and]
      · exact Ev.now _
      cases inR d 20 1000 <;> simp only [Bool.false_eq_true, if_false, if_true, Bool.false_and, Bool.true_and]
      · exact Ev.now _
      exact Ev.now _
    · exact Ev.now _
  refine Ev.bind (specName_ev s h) ?_
  simp only [in_eq, Option.bind_some]
  cases nameOk s <;> simp only [Bool.false_eq_true, if_false, if_true, Bool.false_and, Bool.true_and]
  · exact hj true
  cases inR f 0 15 <;> simp only [Bool.false_eq_true, if_false, if_true, Bool.false_and, Bool.true_and]
  · exact hj true
  cases inR t 0 15 <;> simp only [Bool.false_eq_true, if_false, if_true, Bool.false_and, Bool.true_and]
  · exact hj true
  exact hj (f == t)
def elevB (x : Int) : Bool := inR x (-100000) 100000
def lessB (a b : ByteArray) : Bool := Op.bytesLess a.toList b.toList
def pipeAt (nodes : List Int) (l : List S59) (i : Nat) : Bool := let p := l.getD i z59; pipeOkV p.f0 p.f1 p.f2 p.f3 p.f4 p.f5 && ((inR p.f1 0 ((nodes.length : Int) - 1) && inR p.f2 0 ((nodes.length : Int) - 1)) && (decide (i = 0) || lessB (l.getD (i - 1) z59).f0 p.f0))
def netOk (nodes : List Int) (l : List S59) : Bool := nodes.all elevB && (decide (1 ≤ nodes.length ∧ nodes.length ≤ 16 ∧ l.length ≤ 20) && (List.range l.length).all (pipeAt nodes l))
def SmallN (l : List S59) : Prop := ∀ x ∈ l, x.f0.size ≤ 1048576
theorem rdp (l : List S59) (i : Nat) : rd_T59 l (i : Int) = l.getD i z59 := rfl
theorem getP_mem {l : List S59} {i : Nat} (h : i < l.length) : l.getD i z59 ∈ l := by
  rw [List.getD_eq_getElem?_getD, List.getElem?_eq_getElem h]
  exact List.getElem_mem h
theorem hasNode_eq (nodes : List Int) (l : List S59) (a : Int) (hn : nodes.length ≤ 1048576) : impl_Network_hasNode.f nodes l a = some (inR a 0 ((nodes.length : Int) - 1)) := by
  unfold impl_Network_hasNode.f
  rw [w64 (by omega) (by omega), within_eq]
  rfl
theorem implNet_ev (nodes : List Int) (l : List S59) (hn : nodes.length ≤ 1048576) (hl : l.length ≤ 1048576) (hs : SmallN l) : Ev (fun k => impl_ValidNetwork.f k nodes l) (netOk nodes l) := by
  have hj : ∀ b : Bool, Ev (fun k => impl_ValidNetwork.j0 k b nodes l) (!b && (List.range l.length).all (pipeAt nodes l)) := by
    intro b
    refine Ev.step (fun k => impl_ValidNetwork.j0.eq_2 _ _ _ k) ?_
    cases b with
    | true => simp only [if_true, Bool.not_true, Bool.false_and]; exact Ev.now _
    | false =>
      simp only [Bool.false_eq_true, if_false, Bool.not_false, Bool.true_and]
      have hj2 : ∀ i : Int, Ev (fun k => impl_ValidNetwork.j2 k l (l.length : Int) i true nodes l) false := fun i => Ev.step (fun k => impl_ValidNetwork.j2.eq_2 _ _ _ _ _ _ k) (by simp only [if_true]; exact Ev.now _)
      have := all_n (L := fun k i => impl_ValidNetwork.l0 k l (l.length : Int) i nodes l) l.length (pipeAt nodes l) true false ?_ ?_ ?_
      · cases hr : (List.range l.length).all (pipeAt nodes l) with
        | true => rw [hr] at this; exact this
        | false => rw [hr] at this; exact this
      · intro i hi hp P K
        unfold pipeAt at hp
        simp only [Bool.and_eq_true, Bool.or_eq_true, decide_eq_true_eq] at hp
        obtain ⟨h1, ⟨h2, h3⟩, h4⟩ := hp
        refine EvP.step (fun k => impl_ValidNetwork.l0.eq_2 _ _ _ _ _ k) ?_
        have wi := w64 (show -9223372036854775808 ≤ (i : Int) + 1 by omega) (by omega)
        simp only [if_pos (show (i : Int) < (l.length : Int) by omega), if_pos (show (0 : Int) ≤ (i : Int) by omega), rdp]
        refine EvP.bind (validPipeV_ev _ _ _ _ _ _ (hs _ (getP_mem hi))) ?_
        simp only [h1, if_true, impl_Network_hasEnds.f, hasNode_eq nodes l _ hn, Option.bind_some, h2, h3]
        by_cases h0 : i = 0
        · simp only [if_neg (show ¬ (i : Int) > 0 by omega)]
          refine EvP.step (fun k => impl_ValidNetwork.j2.eq_2 _ _ _ _ _ _ k) ?_
          simp only [Bool.false_eq_true, if_false, wi]
          exact K
        · have w1 : wrap64 ((i : Int) - 1) = ((i - 1 : Nat) : Int) := by rw [w64 (by omega) (by omega)]; omega
          have h5 : lessB (l.getD (i - 1) z59).f0 (l.getD i z59).f0 = true := by rcases h4 with h | h; exact absurd h h0; exact h
          unfold lessB at h5
          simp only [if_pos (show (i : Int) > 0 by omega), w1, if_pos (show (0 : Int) ≤ ((i - 1 : Nat) : Int) by omega), if_pos (show ((i - 1 : Nat) : Int) < (l.length : Int) by omega), rdp, h5, if_true, Bool.not_true]
          refine EvP.step (fun k => impl_ValidNetwork.j2.eq_2 _ _ _ _ _ _ k) ?_
          simp only [Bool.false_eq_true, if_false, wi]
          exact K
      · intro i hi hp
        refine Ev.step (fun k => impl_ValidNetwork.l0.eq_2 _ _ _ _ _ k) ?_
        simp only [if_pos (show (i : Int) < (l.length : Int) by omega), if_pos (show (0 : Int) ≤ (i : Int) by omega), rdp]
        refine Ev.bind (validPipeV_ev _ _ _ _ _ _ (hs _ (getP_mem hi))) ?_
        unfold pipeAt at hp
        simp only at hp
        cases h1 : pipeOkV (l.getD i z59).f0 (l.getD i z59).f1 (l.getD i z59).f2 (l.getD i z59).f3 (l.getD i z59).f4 (l.getD i z59).f5 with
        | false => simp only [Bool.false_eq_true, if_false]; exact hj2 _
        | true =>
          rw [h1, Bool.true_and] at hp
          simp only [if_true, impl_Network_hasEnds.f, hasNode_eq nodes l _ hn, Option.bind_some]
          cases h2 : inR (l.getD i z59).f1 0 ((nodes.length : Int) - 1) with
          | false => simp only [Bool.false_eq_true, if_false, Option.bind_some]; exact hj2 _
          | true =>
            simp only [if_true, Option.bind_some]
            cases h3 : inR (l.getD i z59).f2 0 ((nodes.length : Int) - 1) with
            | false => simp only [Bool.false_eq_true, if_false]; exact hj2 _
            | true =>
              rw [h2, h3, Bool.true_and, Bool.true_and, Bool.or_eq_false_iff, decide_eq_false_iff_not] at hp
              have w1 : wrap64 ((i : Int) - 1) = ((i - 1 : Nat) : Int) := by rw [w64 (by omega) (by omega)]; omega
              have h5 := hp.2
              unfold lessB at h5
              simp only [if_true, if_pos (show (i : Int) > 0 by omega), w1, if_pos (show (0 : Int) ≤ ((i - 1 : Nat) : Int) by omega), if_pos (show ((i - 1 : Nat) : Int) < (l.length : Int) by omega), rdp, h5, Bool.not_false]
              exact hj2 _
      · refine Ev.step (fun k => impl_ValidNetwork.l0.eq_2 _ _ _ _ _ k) ?_
        simp only [if_neg (show ¬ (l.length : Int) < (l.length : Int) by omega)]
        exact Ev.now _
  have hall : nodes.all (impl_allWithin.ok (-100000) 100000) = nodes.all elevB := rfl
  unfold impl_ValidNetwork.f netOk impl_allWithin.f
  simp only [hall, Option.bind_some]
  by_cases h1 : (nodes.length : Int) < 1
  · simp only [if_pos h1, decide_eq_false (show ¬ (1 ≤ nodes.length ∧ nodes.length ≤ 16 ∧ l.length ≤ 20) by omega), Bool.false_and, Bool.and_false]
    have := hj true
    simpa using this
  simp only [if_neg h1]
  by_cases h2 : (nodes.length : Int) > 16
  · simp only [if_pos h2, decide_eq_false (show ¬ (1 ≤ nodes.length ∧ nodes.length ≤ 16 ∧ l.length ≤ 20) by omega), Bool.false_and, Bool.and_false]
    have := hj true
    simpa using this
  simp only [if_neg h2]
  cases nodes.all elevB with
  | false =>
    simp only [Bool.false_eq_true, if_false, Bool.false_and]
    have := hj true
    simpa using this
  | true =>
    simp only [if_true, Bool.true_and]
    have := hj (decide ((l.length : Int) > 20))
    by_cases h3 : (l.length : Int) > 20
    · rw [decide_eq_true h3] at this ⊢
      rw [decide_eq_false (show ¬ (1 ≤ nodes.length ∧ nodes.length ≤ 16 ∧ l.length ≤ 20) by omega)]
      simpa using this
    · rw [decide_eq_false h3] at this ⊢
      rw [decide_eq_true (show 1 ≤ nodes.length ∧ nodes.length ≤ 16 ∧ l.length ≤ 20 by omega)]
      simpa using this
theorem specNet_ev (nodes : List Int) (l : List S59) (hn : nodes.length ≤ 1048576) (hl : l.length ≤ 1048576) (hs : SmallN l) : Ev (fun k => spec_l04Ok.f k nodes l) (netOk nodes l) := by
  have hloop : (1 ≤ nodes.length ∧ nodes.length ≤ 16) → Ev (fun k => spec_l04Ok.l1 k 0 nodes l) ((List.range l.length).all (pipeAt nodes l)) := by
    intro hnl
    have := all_n (L := fun k i => spec_l04Ok.l1 k i nodes l) l.length (pipeAt nodes l) true false ?_ ?_ ?_
    · cases hr : (List.range l.length).all (pipeAt nodes l) with
      | true => rw [hr] at this; exact this
      | false => rw [hr] at this; exact this
    · intro i hi hp P K
      unfold pipeAt at hp
      simp only [Bool.and_eq_true, Bool.or_eq_true, decide_eq_true_eq, inR_iff] at hp
      obtain ⟨h1, ⟨h2, h3⟩, h4⟩ := hp
      refine EvP.step (fun k => spec_l04Ok.l1.eq_2 _ _ _ k) ?_
      have wi := w64 (show -9223372036854775808 ≤ (i : Int) + 1 by omega) (by omega)
      simp only [if_pos (show (i : Int) < (l.length : Int) by omega), if_pos (show (0 : Int) ≤ (i : Int) by omega), rdp, spec_l04Fits.f]
      have hfit : Ev (fun k => (spec_l03Ok.f k (l.getD i z59).f0 (l.getD i z59).f1 (l.getD i z59).f2 (l.getD i z59).f3 (l.getD i z59).f4 (l.getD i z59).f5).bind fun t116 => (if t116 = true then (if (l.getD i z59).f1 < (nodes.length : Int) then (some (decide ((l.getD i z59).f2 < (nodes.length : Int)))) else (some false)) else (some false))) true := by
        refine Ev.bind (l03OkV_ev _ _ _ _ _ _ (hs _ (getP_mem hi))) ?_
        simp only [h1, if_true, if_pos (show (l.getD i z59).f1 < (nodes.length : Int) by omega), decide_eq_true (show (l.getD i z59).f2 < (nodes.length : Int) by omega)]
        exact Ev.now _
      refine EvP.bind hfit ?_
      simp only [if_true]
      by_cases h0 : i = 0
      · simp only [if_neg (show ¬ (i : Int) > 0 by omega), wi]
        exact K
      · have w1 : wrap64 ((i : Int) - 1) = ((i - 1 : Nat) : Int) := by rw [w64 (by omega) (by omega)]; omega
        have h5 : lessB (l.getD (i - 1) z59).f0 (l.getD i z59).f0 = true := by rcases h4 with h | h; exact absurd h h0; exact h
        unfold lessB at h5
        simp only [if_pos (show (i : Int) > 0 by omega), w1, if_pos (show (0 : Int) ≤ ((i - 1 : Nat) : Int) by omega), if_pos (show ((i - 1 : Nat) : Int) < (l.length : Int) by omega), rdp, h5, if_true, wi]
        exact K
    · intro i hi hp
      refine Ev.step (fun k => spec_l04Ok.l1.eq_2 _ _ _ k) ?_
      simp only [if_pos (show (i : Int) < (l.length : Int) by omega), if_pos (show (0 : Int) ≤ (i : Int) by omega), rdp, spec_l04Fits.f]
      unfold pipeAt at hp
      simp only at hp
      have h03 := l03OkV_ev (l.getD i z59).f0 (l.getD i z59).f1 (l.getD i z59).f2 (l.getD i z59).f3 (l.getD i z59).f4 (l.getD i z59).f5 (hs _ (getP_mem hi))
      have hfit : Ev (fun k => (spec_l03Ok.f k (l.getD i z59).f0 (l.getD i z59).f1 (l.getD i z59).f2 (l.getD i z59).f3 (l.getD i z59).f4 (l.getD i z59).f5).bind fun t116 => (if t116 = true then (if (l.getD i z59).f1 < (nodes.length : Int) then (some (decide ((l.getD i z59).f2 < (nodes.length : Int)))) else (some false)) else (some false))) (pipeOkV (l.getD i z59).f0 (l.getD i z59).f1 (l.getD i z59).f2 (l.getD i z59).f3 (l.getD i z59).f4 (l.getD i z59).f5 && (inR (l.getD i z59).f1 0 ((nodes.length : Int) - 1) && inR (l.getD i z59).f2 0 ((nodes.length : Int) - 1))) := by
        refine Ev.bind h03 ?_
        cases h1 : pipeOkV (l.getD i z59).f0 (l.getD i z59).f1 (l.getD i z59).f2 (l.getD i z59).f3 (l.getD i z59).f4 (l.getD i z59).f5 with
        | false => simp only [Bool.false_eq_true, if_false, Bool.false_and]; exact Ev.now _
        | true =>
          unfold pipeOkV at h1
          simp only [Bool.and_eq_true, inR_iff] at h1
          have g1 := h1.2.1
          have g2 := h1.2.2.1
          simp only [if_true, Bool.true_and]
          by_cases h2 : (l.getD i z59).f1 < (nodes.length : Int)
          · have e1 : inR (l.getD i z59).f1 0 ((nodes.length : Int) - 1) = true := inR_iff.2 ⟨by omega, by omega⟩
            have e2 : inR (l.getD i z59).f2 0 ((nodes.length : Int) - 1) = decide ((l.getD i z59).f2 < (nodes.length : Int)) := by
              unfold inR
              rw [decide_eq_true g2.1, Bool.true_and, decide_eq_decide]
              omega
            simp only [if_pos h2, e1, e2, Bool.true_and]
            exact Ev.now _
          · have e1 : inR (l.getD i z59).f1 0 ((nodes.length : Int) - 1) = false := by
              unfold inR
              rw [decide_eq_false (show ¬ (l.getD i z59).f1 ≤ (nodes.length : Int) - 1 by omega), Bool.and_false]
            simp only [if_neg h2, e1, Bool.false_and]
            exact Ev.now _
      refine Ev.bind hfit ?_
      cases hb : (pipeOkV (l.getD i z59).f0 (l.getD i z59).f1 (l.getD i z59).f2 (l.getD i z59).f3 (l.getD i z59).f4 (l.getD i z59).f5 && (inR (l.getD i z59).f1 0 ((nodes.length : Int) - 1) && inR (l.getD i z59).f2 0 ((nodes.length : Int) - 1))) with
      | false => simp only [Bool.false_eq_true, if_false]; exact Ev.now _
      | true =>
        rw [← Bool.and_assoc, hb, Bool.true_and, Bool.or_eq_false_iff, decide_eq_false_iff_not] at hp
        have w1 : wrap64 ((i : Int) - 1) = ((i - 1 : Nat) : Int) := by rw [w64 (by omega) (by omega)]; omega
        have h5 := hp.2
        unfold lessB at h5
        simp only [if_true, if_pos (show (i : Int) > 0 by omega), w1, if_pos (show (0 : Int) ≤ ((i - 1 : Nat) : Int) by omega), if_pos (show ((i - 1 : Nat) : Int) < (l.length : Int) by omega), rdp, h5, Bool.false_eq_true, if_false]
        exact Ev.now _
    · refine Ev.step (fun k => spec_l04Ok.l1.eq_2 _ _ _ k) ?_
      simp only [if_neg (show ¬ (l.length : Int) < (l.length : Int) by omega)]
      exact Ev.now _
  have hj : ∀ b : Bool, b = !(decide (1 ≤ nodes.length ∧ nodes.length ≤ 16 ∧ l.length ≤ 20)) → Ev (fun k => spec_l04Ok.j1 k b nodes l) (!b && (List.range l.length).all (pipeAt nodes l)) := by
    intro b hb
    refine Ev.step (fun k => spec_l04Ok.j1.eq_2 _ _ _ k) ?_
    cases b with
    | true => simp only [if_true, Bool.not_true, Bool.false_and]; exact Ev.now _
    | false =>
      have : decide (1 ≤ nodes.length ∧ nodes.length ≤ 16 ∧ l.length ≤ 20) = true := by
        cases hd : decide (1 ≤ nodes.length ∧ nodes.length ≤ 16 ∧ l.length ≤ 20) with
        | true => rfl
        | false => rw [hd] at hb; cases hb
      rw [decide_eq_true_eq] at this
      simp only [Bool.false_eq_true, if_false, Bool.not_false, Bool.true_and]
      exact hloop ⟨this.1, this.2.1⟩
  unfold spec_l04Ok.f netOk
  have hfin : Ev (fun k => spec_l04Ok.l0 k (nodes.length : Int) nodes l) (decide (1 ≤ nodes.length ∧ nodes.length ≤ 16 ∧ l.length ≤ 20) && (List.range l.length).all (pipeAt nodes l)) := by
    refine Ev.step (fun k => spec_l04Ok.l0.eq_2 _ _ _ k) ?_
    simp only [if_neg (show ¬ (nodes.length : Int) < (nodes.length : Int) by omega)]
    by_cases h1 : (nodes.length : Int) < 1
    · simp only [if_pos h1]
      have e := decide_eq_false (show ¬ (1 ≤ nodes.length ∧ nodes.length ≤ 16 ∧ l.length ≤ 20) by omega)
      have := hj true (by rw [e]; rfl)
      rw [e]
      simpa using this
    simp only [if_neg h1]
    by_cases h2 : (nodes.length : Int) > 16
    · simp only [if_pos h2]
      have e := decide_eq_false (show ¬ (1 ≤ nodes.length ∧ nodes.length ≤ 16 ∧ l.length ≤ 20) by omega)
      have := hj true (by rw [e]; rfl)
      rw [e]
      simpa using this
    simp only [if_neg h2]
    by_cases h3 : (l.length : Int) > 20
    · rw [decide_eq_true h3]
      have e := decide_eq_false (show ¬ (1 ≤ nodes.length ∧ nodes.length ≤ 16 ∧ l.length ≤ 20) by omega)
      have := hj true (by rw [e]; rfl)
      rw [e]
      simpa using this
    · rw [decide_eq_false h3]
      have e := decide_eq_true (show 1 ≤ nodes.length ∧ nodes.length ≤ 16 ∧ l.length ≤ 20 by omega)
      have := hj false (by rw [e]; rfl)
      rw [e]
      simpa using this
  have := all_to (L := fun k i => spec_l04Ok.l0 k i nodes l) nodes elevB (decide (1 ≤ nodes.length ∧ nodes.length ≤ 16 ∧ l.length ≤ 20) && (List.range l.length).all (pipeAt nodes l)) false ?_ ?_ (fun _ => hfin)
  · cases hr : nodes.all elevB with
    | true => rw [hr] at this; simpa using this
    | false => rw [hr] at this; simpa using this
  · intro i hi hp P K
    have e : rd nodes (i : Int) = nodes[i] := rd_at nodes i hi
    refine EvP.step (fun k => spec_l04Ok.l0.eq_2 _ _ _ k) ?_
    unfold elevB at hp
    simp only [if_pos (show (i : Int) < (nodes.length : Int) by omega), if_pos (show (0 : Int) ≤ (i : Int) by omega), e, in_eq, Option.bind_some, hp, if_true, w64 (show -9223372036854775808 ≤ (i : Int) + 1 by omega) (by omega)]
    exact K
  · intro i hi hp
    have e : rd nodes (i : Int) = nodes[i] := rd_at nodes i hi
    refine Ev.step (fun k => spec_l04Ok.l0.eq_2 _ _ _ k) ?_
    unfold elevB at hp
    simp only [if_pos (show (i : Int) < (nodes.length : Int) by omega), if_pos (show (0 : Int) ≤ (i : Int) by omega), e, in_eq, Option.bind_some, hp, Bool.false_eq_true, if_false]
    exact Ev.now _
def flowsOk (l : List S59) (fl : List Int) : Bool := decide (fl.length = l.length) && fl.all elevB
theorem implFlows_eq (nodes : List Int) (l : List S59) (fl : List Int) : impl_Network_flowsOk.f nodes l fl = some (flowsOk l fl) := by
  have hall : fl.all (impl_allWithin.ok (-100000) 100000) = fl.all elevB := rfl
  unfold impl_Network_flowsOk.f flowsOk impl_allWithin.f
  by_cases h : (fl.length : Int) = (l.length : Int)
  · rw [if_pos h, decide_eq_true (show fl.length = l.length by omega), Bool.true_and, hall]
    rfl
  · rw [if_neg h, decide_eq_false (show ¬ fl.length = l.length by omega), Bool.false_and]
theorem specFlows7_ev (nodes : List Int) (l : List S59) (fl : List Int) (hf : fl.length ≤ 1048576) : Ev (fun k => spec_l07Flows.f k nodes l fl) (flowsOk l fl) := by
  unfold spec_l07Flows.f flowsOk
  have hfin : Ev (fun k => spec_l07Flows.l0 k fl (fl.length : Int) nodes l) (decide (fl.length = l.length)) := by
    refine Ev.step (fun k => spec_l07Flows.l0.eq_2 _ _ _ _ k) ?_
    simp only [if_neg (show ¬ (fl.length : Int) < (fl.length : Int) by omega)]
    have : ((fl.length : Int) == (l.length : Int)) = decide (fl.length = l.length) := by
      rw [Bool.eq_iff_iff, beq_iff_eq, decide_eq_true_eq]; omega
    rw [this]
    exact Ev.now _
  have := all_to (L := fun k i => spec_l07Flows.l0 k fl i nodes l) fl elevB (decide (fl.length = l.length)) false ?_ ?_ (fun _ => hfin)
  · cases hr : fl.all elevB with
    | true => rw [hr] at this; simpa using this
    | false => rw [hr] at this; simpa using this
  · intro i hi hp P K
    have e : rd fl (i : Int) = fl[i] := rd_at fl i hi
    refine EvP.step (fun k => spec_l07Flows.l0.eq_2 _ _ _ _ k) ?_
    unfold elevB at hp
    simp only [if_pos (show (i : Int) < (fl.length : Int) by omega), if_pos (show (0 : Int) ≤ (i : Int) by omega), e, spec_l03Flow.f, in_eq, Option.bind_some, hp, if_true, w64 (show -9223372036854775808 ≤ (i : Int) + 1 by omega) (by omega)]
    exact K
  · intro i hi hp
    have e : rd fl (i : Int) = fl[i] := rd_at fl i hi
    refine Ev.step (fun k => spec_l07Flows.l0.eq_2 _ _ _ _ k) ?_
    unfold elevB at hp
    simp only [if_pos (show (i : Int) < (fl.length : Int) by omega), if_pos (show (0 : Int) ≤ (i : Int) by omega), e, spec_l03Flow.f, in_eq, Option.bind_some, hp, Bool.false_eq_true, if_false]
    exact Ev.now _
end Go.Proofs.Ythnhchpgpnaamaa.PNet
end

section
namespace Go.Proofs.Ythnhchpgpnaamaa.PGraph
set_option linter.unusedVariables false
set_option linter.unusedSimpArgs false
def Adj (E : List (Int × Int)) (u v : Int) : Prop := (u, v) ∈ E ∨ (v, u) ∈ E
inductive Conn (E : List (Int × Int)) (u : Int) : Int → Prop
  | refl : Conn E u u
  | step {v w : Int} (h : Conn E u v) (a : Adj E v w) : Conn E u w
theorem Adj.symm {E : List (Int × Int)} {u v : Int} (h : Adj E u v) : Adj E v u := Or.symm h
theorem Conn.trans {E : List (Int × Int)} {u v w : Int} (h : Conn E u v) (k : Conn E v w) : Conn E u w := by
  induction k with
  | refl => exact h
  | step _ a ih => exact ih.step a
theorem Conn.symm {E : List (Int × Int)} {u v : Int} (h : Conn E u v) : Conn E v u := by
  induction h with
  | refl => exact .refl
  | step _ a ih => exact ((Conn.refl (u := _)).step a.symm).trans ih
theorem Conn.mono {E F : List (Int × Int)} (hs : ∀ e ∈ E, e ∈ F) {u v : Int} (h : Conn E u v) : Conn F u v := by
  induction h with
  | refl => exact .refl
  | step _ a ih => exact ih.step (a.elim (fun h => .inl (hs _ h)) (fun h => .inr (hs _ h)))
theorem Conn.keeps {E : List (Int × Int)} {p : Int → Prop} (hp : ∀ u v, Adj E u v → p u → p v) {u v : Int} (h : Conn E u v) (hu : p u) : p v := by
  induction h with
  | refl => exact hu
  | step _ a ih => exact hp _ _ a ih
def Within (N : Nat) (E : List (Int × Int)) : Prop := ∀ e ∈ E, 0 ≤ e.1 ∧ e.1 < (N : Int) ∧ 0 ≤ e.2 ∧ e.2 < (N : Int)
theorem Within.adj {N : Nat} {E : List (Int × Int)} (h : Within N E) {u v : Int} (a : Adj E u v) : 0 ≤ v ∧ v < (N : Int) := by
  rcases a with a | a
  · exact ⟨(h _ a).2.2.1, (h _ a).2.2.2⟩
  · exact ⟨(h _ a).1, (h _ a).2.1⟩
theorem Within.conn {N : Nat} {E : List (Int × Int)} (h : Within N E) {u v : Int} (c : Conn E u v) (hu : 0 ≤ u ∧ u < (N : Int)) : 0 ≤ v ∧ v < (N : Int) := by
  induction c with
  | refl => exact hu
  | step _ a _ => exact h.adj a
abbrev at_ (p : List Int) (u : Int) : Int := p.getD u.toNat 0
def relabel (p : List Int) (b a : Int) : List Int := p.map fun x => if x = b then a else x
theorem relabel_len (p : List Int) (b a : Int) : (relabel p b a).length = p.length := by simp [relabel]
theorem relabel_at (p : List Int) (b a : Int) {u : Int} (h0 : 0 ≤ u) (h : u < (p.length : Int)) : at_ (relabel p b a) u = if at_ p u = b then a else at_ p u := by
  have hu : u.toNat < p.length := by omega
  simp [at_, relabel, List.getD_eq_getElem?_getD, List.getElem?_eq_getElem hu]
def Wf (p : List Int) : Prop := ∀ u : Int, 0 ≤ u → u < (p.length : Int) → 0 ≤ at_ p u ∧ at_ p u < (p.length : Int) ∧ at_ p (at_ p u) = at_ p u
def roots (p : List Int) : Nat := ((List.range p.length).filter fun (j : Nat) => decide (at_ p (j : Int) = (j : Int))).length
theorem filter_one {l : List Nat} (hl : l.Nodup) {p q : Nat → Bool} {b : Nat} (hb : b ∈ l) (hpb : p b = true) (hqb : q b = false) (h : ∀ j, j ≠ b → j ∈ l → p j = q j) : (l.filter q).length + 1 = (l.filter p).length := by
  induction l with
  | nil => cases hb
  | cons x l ih =>
    rw [List.nodup_cons] at hl
    rcases List.mem_cons.1 hb with rfl | hb'
    · have e : l.filter q = l.filter p := by
        apply List.filter_congr
        intro j hj
        exact (h j (fun e => hl.1 (e ▸ hj)) (List.mem_cons_of_mem _ hj)).symm
      rw [List.filter_cons, List.filter_cons, hpb, hqb, e]
      simp
    · have hx : x ≠ b := fun e => hl.1 (e ▸ hb')
      have hi := ih hl.2 hb' (fun j hj hm => h j hj (List.mem_cons_of_mem _ hm))
      rw [List.filter_cons, List.filter_cons, h x hx (List.mem_cons_self ..)]
      cases q x <;> simp <;> omega
theorem Wf.relabel {p : List Int} (h : Wf p) {a b : Int} (ha0 : 0 ≤ a) (ha : a < (p.length : Int)) (haa : at_ p a = a) (hab : a ≠ b) : Wf (relabel p b a) := by
  intro u h0 h1
  rw [relabel_len] at h1
  obtain ⟨p0, p1, p2⟩ := h u h0 h1
  rw [relabel_at p b a h0 h1]
  by_cases hc : at_ p u = b
  · rw [if_pos hc]
    refine ⟨ha0, by rw [relabel_len]; exact ha, ?_⟩
    rw [relabel_at p b a ha0 ha, haa, if_neg hab]
  · rw [if_neg hc]
    refine ⟨p0, by rw [relabel_len]; exact p1, ?_⟩
    rw [relabel_at p b a p0 p1, p2, if_neg hc]
theorem roots_relabel {p : List Int} (h : Wf p) {a b : Int} (ha0 : 0 ≤ a) (ha : a < (p.length : Int)) (haa : at_ p a = a) (hb0 : 0 ≤ b) (hb : b < (p.length : Int)) (hbb : at_ p b = b) (hab : a ≠ b) :
    roots (PGraph.relabel p b a) + 1 = roots p := by
  unfold roots
  rw [relabel_len]
  obtain ⟨n, rfl⟩ := Int.eq_ofNat_of_zero_le hb0
  refine filter_one List.nodup_range (b := n) (by rw [List.mem_range]; omega) ?_ ?_ ?_
  · simpa using hbb
  · rw [relabel_at p _ a (by omega) (by omega), hbb, if_pos rfl]
    simpa using hab
  · intro j hj hm
    rw [List.mem_range] at hm
    rw [relabel_at p _ a (by omega) (by omega), decide_eq_decide]
    by_cases hc : at_ p (j : Int) = (n : Int)
    · rw [if_pos hc]
      constructor
      · intro e; omega
      · intro e
        rw [← e, haa] at hc
        exact absurd hc hab
    · rw [if_neg hc]
def merge : List Int → List (Int × Int) → List Int × Nat
  | p, [] => (p, 0)
  | p, e :: r => if at_ p e.1 = at_ p e.2 then merge p r else ((merge (relabel p (at_ p e.2) (at_ p e.1)) r).1, (merge (relabel p (at_ p e.2) (at_ p e.1)) r).2 + 1)
structure Tells (E : List (Int × Int)) (p : List Int) : Prop where
  wf : Wf p
  conn : ∀ u v : Int, 0 ≤ u → u < (p.length : Int) → 0 ≤ v → v < (p.length : Int) → at_ p u = at_ p v → Conn E u v
  edge : ∀ e ∈ E, at_ p e.1 = at_ p e.2
theorem Tells.relabel {E : List (Int × Int)} {p : List Int} (h : Tells E p) {u v : Int} (hu0 : 0 ≤ u) (hu : u < (p.length : Int)) (hv0 : 0 ≤ v) (hv : v < (p.length : Int)) (hw : Within p.length E) (hne : at_ p u ≠ at_ p v) :
    Tells (E ++ [(u, v)]) (PGraph.relabel p (at_ p v) (at_ p u)) := by
  obtain ⟨a0, a1, a2⟩ := h.wf u hu0 hu
  obtain ⟨b0, b1, b2⟩ := h.wf v hv0 hv
  have hsub : ∀ e ∈ E, e ∈ E ++ [(u, v)] := fun e he => List.mem_append_left _ he
  have huv : Conn (E ++ [(u, v)]) u v := Conn.refl.step (.inl (List.mem_append_right _ (List.mem_singleton.2 rfl)))
  refine ⟨h.wf.relabel a0 a1 a2 hne, ?_, ?_⟩
  · intro x y hx0 hx hy0 hy hxy
    rw [relabel_len] at hx hy
    rw [relabel_at p _ _ hx0 hx, relabel_at p _ _ hy0 hy] at hxy
    by_cases cx : at_ p x = at_ p v
    · have kx := (h.conn x v hx0 hx hv0 hv cx).mono hsub
      by_cases cy : at_ p y = at_ p v
      · exact (h.conn x y hx0 hx hy0 hy (cx.trans cy.symm)).mono hsub
      · rw [if_pos cx, if_neg cy] at hxy
        exact (kx.trans huv.symm).trans ((h.conn u y hu0 hu hy0 hy hxy).mono hsub)
    · by_cases cy : at_ p y = at_ p v
      · rw [if_neg cx, if_pos cy] at hxy
        exact ((h.conn x u hx0 hx hu0 hu hxy).mono hsub).trans (huv.trans ((h.conn v y hv0 hv hy0 hy cy.symm).mono hsub))
      · rw [if_neg cx, if_neg cy] at hxy
        exact (h.conn x y hx0 hx hy0 hy hxy).mono hsub
  · intro e he
    rcases List.mem_append.1 he with he | he
    · obtain ⟨q1, q2, q3, q4⟩ := hw e he
      rw [relabel_at p _ _ q1 q2, relabel_at p _ _ q3 q4, h.edge e he]
    · rw [List.mem_singleton.1 he]
      show at_ _ u = at_ _ v
      rw [relabel_at p _ _ hu0 hu, relabel_at p _ _ hv0 hv, if_neg hne, if_pos rfl]
theorem Tells.same {E : List (Int × Int)} {p : List Int} (h : Tells E p) {u v : Int} (he : at_ p u = at_ p v) : Tells (E ++ [(u, v)]) p := by
  refine ⟨h.wf, fun x y hx0 hx hy0 hy hxy => (h.conn x y hx0 hx hy0 hy hxy).mono fun e he => List.mem_append_left _ he, ?_⟩
  intro e hm
  rcases List.mem_append.1 hm with hm | hm
  · exact h.edge e hm
  · rw [List.mem_singleton.1 hm]; exact he
theorem merge_tells : ∀ (r : List (Int × Int)) (E : List (Int × Int)) (p : List Int), Tells E p → Within p.length E → Within p.length r →
    Tells (E ++ r) (merge p r).1 ∧ (merge p r).1.length = p.length ∧ roots (merge p r).1 + (merge p r).2 = roots p
  | [], E, p, h, _, _ => by simpa [merge] using h
  | e :: r, E, p, h, hE, hr => by
    obtain ⟨q1, q2, q3, q4⟩ := hr e (List.mem_cons_self ..)
    have hr' : Within p.length r := fun x hx => hr x (List.mem_cons_of_mem _ hx)
    have hE' : Within p.length (E ++ [e]) := by
      intro x hx
      rcases List.mem_append.1 hx with hx | hx
      · exact hE x hx
      · rw [List.mem_singleton.1 hx]; exact ⟨q1, q2, q3, q4⟩
    unfold merge
    by_cases hc : at_ p e.1 = at_ p e.2
    · rw [if_pos hc]
      have := merge_tells r (E ++ [e]) p (h.same hc) hE' hr'
      rwa [List.append_assoc] at this
    · rw [if_neg hc]
      have ht := h.relabel q1 q2 q3 q4 hE hc
      have hl := relabel_len p (at_ p e.2) (at_ p e.1)
      obtain ⟨a0, a1, a2⟩ := h.wf e.1 q1 q2
      obtain ⟨b0, b1, b2⟩ := h.wf e.2 q3 q4
      have hroots := roots_relabel h.wf a0 a1 a2 b0 b1 b2 hc
      have := merge_tells r (E ++ [e]) _ ht (by rw [hl]; exact hE') (by rw [hl]; exact hr')
      rw [List.append_assoc, hl] at this
      refine ⟨this.1, this.2.1, ?_⟩
      have := this.2.2
      simp only
      omega
def ids (N : Nat) : List Int := (List.range N).map fun (j : Nat) => (j : Int)
theorem ids_at (N : Nat) {u : Int} (h0 : 0 ≤ u) (h : u < (N : Int)) : at_ (ids N) u = u := by
  have hu : u.toNat < N := by omega
  simp [at_, ids, List.getD_eq_getElem?_getD, hu]
  omega
theorem ids_len (N : Nat) : (ids N).length = N := by simp [ids]
theorem ids_tells (N : Nat) : Tells [] (ids N) := by
  refine ⟨fun u h0 h => ?_, fun u v h0 h h0' h' e => ?_, by simp⟩
  · rw [ids_len] at h
    rw [ids_at N h0 h, ids_at N h0 h, ids_len]
    exact ⟨h0, h, rfl⟩
  · rw [ids_len] at h h'
    rw [ids_at N h0 h, ids_at N h0' h'] at e
    rw [e]
    exact .refl
theorem ids_roots (N : Nat) : roots (ids N) = N := by
  unfold roots
  rw [ids_len, List.filter_eq_self.2, List.length_range]
  intro j hj
  rw [List.mem_range] at hj
  rw [ids_at N (by omega) (by omega)]
  simp
theorem Tells.iff {E : List (Int × Int)} {p : List Int} (h : Tells E p) (hw : Within p.length E) {u v : Int} (hu0 : 0 ≤ u) (hu : u < (p.length : Int)) (hv0 : 0 ≤ v) (hv : v < (p.length : Int)) : at_ p u = at_ p v ↔ Conn E u v := by
  refine ⟨h.conn u v hu0 hu hv0 hv, fun c => ?_⟩
  have := c.keeps (p := fun x => at_ p u = at_ p x) (fun x y a hx => ?_) rfl
  · exact this
  · rcases a with a | a
    · exact hx.trans (h.edge _ a)
    · exact hx.trans (h.edge _ a).symm
theorem one_of_len {α : Type} {l : List α} (h : l.length = 1) : ∃ x, l = [x] := by
  match l, h with
  | [x], _ => exact ⟨x, rfl⟩
theorem filter_le_one {l : List Nat} (hl : l.Nodup) {q : Nat → Bool} (a : Nat) (h : ∀ j, j ∈ l → q j = true → j = a) : (l.filter q).length ≤ 1 := by
  induction l with
  | nil => simp
  | cons x l ih =>
    rw [List.nodup_cons] at hl
    rw [List.filter_cons]
    split
    · rename_i hx
      have hxa := h x (List.mem_cons_self ..) hx
      have : l.filter q = [] := by
        rw [List.filter_eq_nil_iff]
        intro j hj hq
        have := h j (List.mem_cons_of_mem _ hj) hq
        exact hl.1 (by rw [hxa, ← this]; exact hj)
      rw [this]
      simp
    · exact ih hl.2 (fun j hj => h j (List.mem_cons_of_mem _ hj))
theorem tree_iff (N : Nat) (hN : 1 ≤ N) (E : List (Int × Int)) (hE : Within N E) : (merge (ids N) E).2 = N - 1 ↔ ∀ v : Int, 0 ≤ v → v < (N : Int) → Conn E 0 v := by
  have hl := ids_len N
  obtain ⟨h1, h2, h3⟩ := merge_tells E [] (ids N) (ids_tells N) (by intro e he; cases he) (by rw [hl]; exact hE)
  rw [List.nil_append] at h1
  rw [hl] at h2
  rw [ids_roots] at h3
  generalize merge (ids N) E = M at h1 h2 h3 ⊢
  have hw : Within M.1.length E := by rw [h2]; exact hE
  obtain ⟨r0, r1, r2⟩ := h1.wf 0 (by omega) (by rw [h2]; omega)
  have hmem : (at_ M.1 0).toNat ∈ (List.range M.1.length).filter fun (j : Nat) => decide (at_ M.1 (j : Int) = (j : Int)) := by
    rw [List.mem_filter, List.mem_range]
    refine ⟨by omega, ?_⟩
    rw [Int.toNat_of_nonneg r0, r2]
    simp
  have hpos : 1 ≤ roots M.1 := by
    unfold roots
    exact List.length_pos_of_mem hmem
  constructor
  · intro hm v hv0 hv
    have hone : roots M.1 = 1 := by omega
    obtain ⟨x, hx⟩ := one_of_len (show ((List.range M.1.length).filter fun (j : Nat) => decide (at_ M.1 (j : Int) = (j : Int))).length = 1 from hone)
    rw [hx, List.mem_singleton] at hmem
    obtain ⟨v0, v1, v2⟩ := h1.wf v hv0 (by rw [h2]; exact hv)
    have hmv : (at_ M.1 v).toNat ∈ (List.range M.1.length).filter fun (j : Nat) => decide (at_ M.1 (j : Int) = (j : Int)) := by
      rw [List.mem_filter, List.mem_range]
      refine ⟨by omega, ?_⟩
      rw [Int.toNat_of_nonneg v0, v2]
      simp
    rw [hx, List.mem_singleton] at hmv
    exact h1.conn 0 v (by omega) (by rw [h2]; omega) hv0 (by rw [h2]; exact hv) (by omega)
  · intro hall
    have : roots M.1 ≤ 1 := by
      refine filter_le_one List.nodup_range (at_ M.1 0).toNat ?_
      intro j hj hq
      rw [List.mem_range, h2] at hj
      have hjj : at_ M.1 (j : Int) = (j : Int) := by simpa using hq
      have := (h1.iff hw (by omega) (by rw [h2]; omega) (by omega) (by rw [h2]; omega)).2 (hall (j : Int) (by omega) (by omega))
      omega
    omega
theorem nodup_le : ∀ (N : Nat) (L : List Int), L.Nodup → (∀ x ∈ L, 0 ≤ x ∧ x < (N : Int)) → L.length ≤ N ∧ (L.length = N → ∀ v : Int, 0 ≤ v → v < (N : Int) → v ∈ L)
  | 0, L, _, h => by
    cases L with
    | nil => exact ⟨by simp, fun _ v h0 h1 => by omega⟩
    | cons x L => have := h x (List.mem_cons_self ..); omega
  | N + 1, L, hn, h => by
    by_cases hm : (N : Int) ∈ L
    · have hn' : (L.erase (N : Int)).Nodup := hn.erase _
      have hmem : ∀ x, x ∈ L.erase (N : Int) ↔ x ≠ (N : Int) ∧ x ∈ L := fun x => hn.mem_erase_iff
      obtain ⟨i1, i2⟩ := nodup_le N (L.erase (N : Int)) hn' (fun x hx => by
        have hx' := (hmem x).1 hx
        have := h x hx'.2
        omega)
      have hlen := List.length_erase_of_mem hm
      have hpos := List.length_pos_of_mem hm
      refine ⟨by omega, fun hl v h0 h1 => ?_⟩
      by_cases hv : v = (N : Int)
      · rw [hv]; exact hm
      · exact ((hmem v).1 (i2 (by omega) v h0 (by omega))).2
    · obtain ⟨i1, i2⟩ := nodup_le N L hn (fun x hx => by
        have := h x hx
        have hne : x ≠ (N : Int) := fun e => hm (e ▸ hx)
        omega)
      exact ⟨by omega, fun hl => by omega⟩
theorem all_len (N : Nat) (L : List Int) (hn : L.Nodup) (hr : ∀ x ∈ L, 0 ≤ x ∧ x < (N : Int)) (hall : ∀ v : Int, 0 ≤ v → v < (N : Int) → v ∈ L) : L.length = N := by
  have h1 := (nodup_le N L hn hr).1
  have h2 : ∀ (M : Nat) (K : List Int), (∀ v : Int, 0 ≤ v → v < (M : Int) → v ∈ K) → M ≤ K.length := by
    intro M
    induction M with
    | zero => intro K _; omega
    | succ M ih =>
      intro K hK
      have hm := hK (M : Int) (by omega) (by omega)
      have := ih (K.erase (M : Int)) (fun v v0 v1 => (List.mem_erase_of_ne (by omega)).2 (hK v v0 (by omega)))
      have hlen := List.length_erase_of_mem hm
      have hpos := List.length_pos_of_mem hm
      omega
  have := h2 N L hall
  omega
end Go.Proofs.Ythnhchpgpnaamaa.PGraph
end

section
namespace Go.Proofs.Ythnhchpgpnaamaa.PBfs
open Go.Proofs.Ythnhchpgpnaamaa.PGraph
set_option linter.unusedVariables false
set_option linter.unusedSimpArgs false
def other (e : Int × Int) (u : Int) : Option Int := if u = e.1 then some e.2 else if u = e.2 then some e.1 else none
abbrev St := List Int × List (Int × Int × Int)
def stepS (op : Int → Bool) (u : Int) (e : Int × Int) (i : Int) (s : St) : St := match other e u with
  | none => s
  | some v => if op i = true ∧ v ∉ s.1 then (s.1 ++ [v], s.2 ++ [(v, u, i)]) else s
def scan (op : Int → Bool) (u : Int) : List (Int × Int) → Int → St → St
  | [], _, s => s
  | e :: r, i, s => scan op u r (i + 1) (stepS op u e i s)
def bfs (op : Int → Bool) (E : List (Int × Int)) : Nat → Nat → St → St
  | 0, _, s => s
  | d + 1, k, s => if k < s.1.length then bfs op E d (k + 1) (scan op (s.1.getD k 0) E 0 s) else s
def opens (op : Int → Bool) (E : List (Int × Int)) : List (Int × Int) := ((List.range E.length).filter fun (i : Nat) => op (i : Int)).map fun i => E.getD i (0, 0)
theorem mem_opens {op : Int → Bool} {E : List (Int × Int)} {e : Int × Int} : e ∈ opens op E ↔ ∃ i : Nat, E[i]? = some e ∧ op (i : Int) = true := by
  unfold opens
  rw [List.mem_map]
  constructor
  · rintro ⟨i, hi, rfl⟩
    rw [List.mem_filter, List.mem_range] at hi
    exact ⟨i, by simp [List.getD_eq_getElem?_getD, hi.1], hi.2⟩
  · rintro ⟨i, hi, ho⟩
    obtain ⟨h, rfl⟩ := List.getElem?_eq_some_iff.1 hi
    exact ⟨i, List.mem_filter.2 ⟨List.mem_range.2 h, ho⟩, by simp [List.getD_eq_getElem?_getD, h]⟩
theorem opens_within {N : Nat} {op : Int → Bool} {E : List (Int × Int)} (h : Within N E) : Within N (opens op E) := by
  intro e he
  obtain ⟨i, hi, _⟩ := mem_opens.1 he
  exact h e (List.mem_of_getElem? hi)
theorem other_adj {E : List (Int × Int)} {e : Int × Int} {u v : Int} (he : e ∈ E) (h : other e u = some v) : Adj E u v := by
  unfold other at h
  split at h
  · rename_i hu
    rw [← Option.some.inj h, hu]
    exact .inl he
  · split at h
    · rename_i hu
      rw [← Option.some.inj h, hu]
      exact .inr he
    · cases h
theorem adj_other {op : Int → Bool} {E : List (Int × Int)} {u v : Int} (h : Adj (opens op E) u v) : ∃ (i : Nat) (e : Int × Int), E[i]? = some e ∧ op (i : Int) = true ∧ other e u = some v := by
  rcases h with h | h
  · obtain ⟨i, hi, ho⟩ := mem_opens.1 h
    exact ⟨i, _, hi, ho, by unfold other; rw [if_pos rfl]⟩
  · obtain ⟨i, hi, ho⟩ := mem_opens.1 h
    refine ⟨i, _, hi, ho, ?_⟩
    unfold other
    by_cases hc : u = v
    · rw [if_pos (by simpa using hc)]; simp [hc]
    · rw [if_neg (by simpa using hc), if_pos rfl]
theorem getD_app {α : Type} {a b : List α} {j : Nat} {d : α} (h : j < a.length) : (a ++ b).getD j d = a.getD j d := by
  simp [List.getD_eq_getElem?_getD, List.getElem?_append_left h]
theorem getD_end {α : Type} {a : List α} {x d : α} : (a ++ [x]).getD a.length d = x := by
  simp [List.getD_eq_getElem?_getD]
structure Inv (N : Nat) (op : Int → Bool) (E : List (Int × Int)) (src : Int) (k : Nat) (s : St) : Prop where
  nd : s.1.Nodup
  wi : ∀ x ∈ s.1, 0 ≤ x ∧ x < (N : Int)
  ne : 0 < s.1.length
  hd : s.1.getD 0 0 = src
  cn : ∀ x ∈ s.1, Conn (opens op E) src x
  kl : k ≤ s.1.length
  cl : ∀ j, j < k → ∀ (i : Nat) (e : Int × Int) (v : Int), E[i]? = some e → op (i : Int) = true → other e (s.1.getD j 0) = some v → v ∈ s.1
  wl : s.2.length + 1 = s.1.length
  wy : ∀ (j : Nat) (w : Int × Int × Int), s.2[j]? = some w → w.1 = s.1.getD (j + 1) 0 ∧ ∃ (i : Nat) (e : Int × Int) (m : Nat), w.2.2 = (i : Int) ∧ E[i]? = some e ∧ op (i : Int) = true ∧ other e w.2.1 = some w.1 ∧ m ≤ j ∧ s.1.getD m 0 = w.2.1
theorem getD_mem' {l : List Int} {j : Nat} (h : j < l.length) : l.getD j 0 ∈ l := by
  simp [List.getD_eq_getElem?_getD, h]
theorem step_inv {N : Nat} {op : Int → Bool} {E : List (Int × Int)} {src : Int} {k : Nat} {s : St} (hE : Within N E) (h : Inv N op E src k s) (hk : k < s.1.length) {i : Nat} {e : Int × Int} (hi : E[i]? = some e) :
    Inv N op E src k (stepS op (s.1.getD k 0) e (i : Int) s) ∧ s.1.length ≤ (stepS op (s.1.getD k 0) e (i : Int) s).1.length ∧ (∀ j, j < s.1.length → (stepS op (s.1.getD k 0) e (i : Int) s).1.getD j 0 = s.1.getD j 0) ∧ (∀ x ∈ s.1, x ∈ (stepS op (s.1.getD k 0) e (i : Int) s).1) ∧
    (op (i : Int) = true → ∀ v, other e (s.1.getD k 0) = some v → v ∈ (stepS op (s.1.getD k 0) e (i : Int) s).1) := by
  unfold stepS
  cases ho : other e (s.1.getD k 0) with
  | none => exact ⟨h, Nat.le_refl _, fun _ _ => rfl, fun _ hx => hx, fun _ v hv => by cases hv⟩
  | some v =>
    by_cases hc : op (i : Int) = true ∧ v ∉ s.1
    · simp only [if_pos hc]
      have ha : Adj (opens op E) (s.1.getD k 0) v := other_adj (mem_opens.2 ⟨i, hi, hc.1⟩) ho
      have hkm := getD_mem' hk
      have hv := (opens_within hE (op := op)).adj ha
      refine ⟨⟨?_, ?_, by simp, ?_, ?_, ?_, ?_, ?_, ?_⟩, by simp, fun j hj => getD_app hj, fun x hx => List.mem_append_left _ hx, fun _ v' hv' => by rw [← Option.some.inj hv']; exact List.mem_append_right _ (List.mem_singleton.2 rfl)⟩
      · rw [List.nodup_append]
        refine ⟨h.nd, by simp, ?_⟩
        intro a ha' b hb'
        rw [List.mem_singleton.1 hb']
        rintro rfl
        exact hc.2 ha'
      · intro x hx
        rcases List.mem_append.1 hx with hx | hx
        · exact h.wi x hx
        · rw [List.mem_singleton.1 hx]; exact hv
      · show (s.1 ++ [v]).getD 0 0 = src
        rw [getD_app h.ne, h.hd]
      · intro x hx
        rcases List.mem_append.1 hx with hx | hx
        · exact h.cn x hx
        · rw [List.mem_singleton.1 hx]; exact (h.cn _ hkm).step ha
      · show k ≤ (s.1 ++ [v]).length
        have := h.kl
        simp
        omega
      · intro j hj i' e' v' h1 h2 h3
        have hj' : j < s.1.length := by have := h.kl; omega
        rw [getD_app hj'] at h3
        exact List.mem_append_left _ (h.cl j hj i' e' v' h1 h2 h3)
      · have := h.wl
        simp
        omega
      · intro j w hw
        by_cases hj : j < s.2.length
        · rw [List.getElem?_append_left hj] at hw
          obtain ⟨g1, i', e', m, g2, g3, g4, g5, g6, g7⟩ := h.wy j w hw
          have := h.wl
          refine ⟨?_, i', e', m, g2, g3, g4, g5, g6, ?_⟩
          · rw [getD_app (by omega)]; exact g1
          · rw [getD_app (by omega)]; exact g7
        · have hj2 : j = s.2.length := by
            have := (List.getElem?_eq_some_iff.1 hw).1
            simp at this
            omega
          have hw' : w = (v, s.1.getD k 0, (i : Int)) := by
            rw [hj2] at hw
            simp at hw
            exact hw.symm
          have hl := h.wl
          subst hw'
          refine ⟨?_, i, e, k, rfl, hi, hc.1, ho, by omega, ?_⟩
          · show v = (s.1 ++ [v]).getD (j + 1) 0
            rw [show j + 1 = s.1.length by omega, getD_end]
          · show (s.1 ++ [v]).getD k 0 = s.1.getD k 0
            rw [getD_app hk]
    · dsimp only
      rw [if_neg hc]
      refine ⟨h, Nat.le_refl _, fun _ _ => rfl, fun _ hx => hx, fun hop v' hv' => ?_⟩
      rw [← Option.some.inj hv']
      exact Classical.byContradiction fun hn => hc ⟨hop, hn⟩
theorem scan_inv {N : Nat} {op : Int → Bool} {E : List (Int × Int)} {src : Int} {k : Nat} (hE : Within N E) : ∀ (r : List (Int × Int)) (i : Nat) (s : St) (u : Int), E.drop i = r → i ≤ E.length → Inv N op E src k s → k < s.1.length → s.1.getD k 0 = u →
    (∀ i' < i, ∀ e v, E[i']? = some e → op (i' : Int) = true → other e u = some v → v ∈ s.1) →
    Inv N op E src (k + 1) (scan op u r (i : Int) s) ∧ ∀ x ∈ s.1, x ∈ (scan op u r (i : Int) s).1
  | [], i, s, u, hr, hi, h, hk, hu, hd => by
    have hlen : i = E.length := by
      have := congrArg List.length hr
      simp at this
      omega
    show Inv N op E src (k + 1) s ∧ _
    refine ⟨⟨h.nd, h.wi, h.ne, h.hd, h.cn, by omega, ?_, h.wl, h.wy⟩, fun _ hx => hx⟩
    intro j hj i' e v h1 h2 h3
    by_cases hjk : j < k
    · exact h.cl j hjk i' e v h1 h2 h3
    · have : j = k := by omega
      rw [this, hu] at h3
      have hi' := (List.getElem?_eq_some_iff.1 h1).1
      exact hd i' (by omega) e v h1 h2 h3
  | e :: r, i, s, u, hr, hi, h, hk, hu, hd => by
    have hil : i < E.length := by
      apply Nat.lt_of_not_le
      intro hc
      rw [List.drop_eq_nil_of_le hc] at hr
      cases hr
    have hdr := List.drop_eq_getElem_cons hil
    rw [hr] at hdr
    injection hdr with h1 h2
    have hie : E[i]? = some e := by rw [List.getElem?_eq_getElem hil, h1]
    obtain ⟨g1, g2, g3, g4, g5⟩ := step_inv hE h hk hie
    rw [hu] at g1 g2 g3 g4 g5
    have := scan_inv hE r (i + 1) (stepS op u e (i : Int) s) u h2.symm (by omega) g1 (by omega) (by rw [g3 k hk, hu]) (by
      intro i' hi' e' v h1' h2' h3'
      by_cases hc : i' < i
      · exact g4 _ (hd i' hc e' v h1' h2' h3')
      · have : i' = i := by omega
        subst this
        rw [hie] at h1'
        obtain rfl := Option.some.inj h1'
        exact g5 h2' v h3')
    unfold scan
    rw [show ((i : Int) + 1) = ((i + 1 : Nat) : Int) by omega]
    exact ⟨this.1, fun x hx => this.2 x (g4 x hx)⟩
theorem bfs_inv {N : Nat} {op : Int → Bool} {E : List (Int × Int)} {src : Int} (hE : Within N E) : ∀ (d k : Nat) (s : St), Inv N op E src k s → N + 1 ≤ k + d → Inv N op E src (bfs op E d k s).1.length (bfs op E d k s)
  | 0, k, s, h, hd => by
    have := (nodup_le N s.1 h.nd h.wi).1
    have := h.kl
    omega
  | d + 1, k, s, h, hd => by
    unfold bfs
    by_cases hk : k < s.1.length
    · rw [if_pos hk]
      have := scan_inv hE E 0 s (s.1.getD k 0) rfl (by omega) h hk rfl (by intro i' hi'; omega)
      exact bfs_inv hE d (k + 1) _ this.1 (by omega)
    · rw [if_neg hk]
      have := h.kl
      have e : k = s.1.length := by omega
      rw [← e]
      exact h
theorem start_inv {N : Nat} {op : Int → Bool} {E : List (Int × Int)} {src : Int} (h0 : 0 ≤ src) (h1 : src < (N : Int)) : Inv N op E src 0 ([src], []) := by
  refine ⟨by simp, by simpa using ⟨h0, h1⟩, by simp, rfl, ?_, by omega, by intro j hj; omega, rfl, by intro j w hw; simp at hw⟩
  intro x hx
  rw [List.mem_singleton.1 hx]
  exact .refl
theorem Inv.all {N : Nat} {op : Int → Bool} {E : List (Int × Int)} {src : Int} {s : St} (h : Inv N op E src s.1.length s) {v : Int} (hc : Conn (opens op E) src v) : v ∈ s.1 := by
  refine hc.keeps (p := fun x => x ∈ s.1) ?_ ?_
  · intro x y a hx
    obtain ⟨i, e, hi, ho, hoth⟩ := adj_other a
    obtain ⟨j, hj, rfl⟩ := List.getElem_of_mem hx
    refine h.cl j hj i e y hi ho ?_
    rw [List.getD_eq_getElem?_getD, List.getElem?_eq_getElem hj]
    exact hoth
  · rw [← h.hd]
    exact getD_mem' h.ne
theorem Inv.iff {N : Nat} {op : Int → Bool} {E : List (Int × Int)} {src : Int} {s : St} (h : Inv N op E src s.1.length s) {v : Int} : v ∈ s.1 ↔ Conn (opens op E) src v := ⟨h.cn v, h.all⟩
theorem Inv.full {N : Nat} {op : Int → Bool} {E : List (Int × Int)} {src : Int} {s : St} (h : Inv N op E src s.1.length s) : s.1.length = N ↔ ∀ v : Int, 0 ≤ v → v < (N : Int) → Conn (opens op E) src v := by
  constructor
  · intro hl v h0 h1
    exact h.cn v ((nodup_le N s.1 h.nd h.wi).2 hl v h0 h1)
  · intro ha
    exact all_len N s.1 h.nd h.wi (fun v h0 h1 => h.all (ha v h0 h1))
def full (op : Int → Bool) (E : List (Int × Int)) (N : Nat) (src : Int) : St := bfs op E (N + 1) 0 ([src], [])
theorem full_inv {N : Nat} {op : Int → Bool} {E : List (Int × Int)} {src : Int} (hE : Within N E) (h0 : 0 ≤ src) (h1 : src < (N : Int)) : Inv N op E src (full op E N src).1.length (full op E N src) :=
  bfs_inv hE (N + 1) 0 _ (start_inv h0 h1) (by omega)
end Go.Proofs.Ythnhchpgpnaamaa.PBfs
end

section
namespace Go.Proofs.Ythnhchpgpnaamaa.PTree
open Go.RowKit Go.Proofs.YthnhchpgpnaamaaW.PrintWords Go.Proofs.Ythnhchpgpnaamaa.XG Go.Proofs.Ythnhchpgpnaamaa.EvK Go.Proofs.Ythnhchpgpnaamaa.PBasics Go.Proofs.Ythnhchpgpnaamaa.PNet Go.Proofs.Ythnhchpgpnaamaa.PGraph Go.Proofs.Ythnhchpgpnaamaa.PBfs
set_option linter.unusedVariables false
set_option linter.unusedSimpArgs false
abbrev P := S59
def ends (p : P) : Int × Int := (p.f1, p.f2)
def E (l : List P) : List (Int × Int) := l.map ends
theorem rdP (l : List P) (i : Nat) (h : i < l.length) : rd_T59 l (i : Int) = l[i] := getD_at l z59 i h
theorem E_at {l : List P} {i : Nat} {p : P} (h : l[i]? = some p) : (E l)[i]? = some (ends p) := by
  unfold E
  rw [List.getElem?_map, h]
  rfl
theorem at_E {l : List P} {i : Nat} {e : Int × Int} (h : (E l)[i]? = some e) : ∃ p, l[i]? = some p ∧ e = ends p := by
  unfold E at h
  rw [List.getElem?_map] at h
  obtain ⟨p, h1, h2⟩ := Option.map_eq_some_iff.mp h
  exact ⟨p, h1, h2.symm⟩
theorem drop_at {α : Type} {t rest : List α} {y : α} {i : Nat} (h : t.drop i = y :: rest) : ∃ hi : i < t.length, t[i] = y ∧ t.drop (i + 1) = rest := by
  have hi : i < t.length := by
    apply Nat.lt_of_not_le
    intro hc
    rw [List.drop_eq_nil_of_le hc] at h
    cases h
  have := List.drop_eq_getElem_cons hi
  rw [h] at this
  injection this with h1 h2
  exact ⟨hi, h1.symm, h2.symm⟩
theorem drop_nil {α : Type} {t : List α} {i : Nat} (hi : i ≤ t.length) (h : t.drop i = []) : i = t.length := by
  have := congrArg List.length h
  simp at this
  omega
theorem other_eq (p : P) (u : Int) : impl_Pipe_other.f p.f0 p.f1 p.f2 p.f3 p.f4 p.f5 u = some (match other (ends p) u with | none => (0, false) | some v => (v, true)) := by
  unfold impl_Pipe_other.f other ends
  by_cases h1 : u = p.f1
  · simp only [if_pos h1]
  · simp only [if_neg h1]
    by_cases h2 : u = p.f2
    · simp only [if_pos h2]
    · simp only [if_neg h2]
theorem index_from (l : List Int) (a : Int) (hl : l.length ≤ 1048576) : ∀ (rest : List Int) (i : Nat), l.drop i = rest → i ≤ l.length → EvP (fun k => slices_Index_int64S.l0 k l a (l.length : Int) (i : Int)) (fun t => (0 ≤ t ↔ a ∈ rest)) := by
  intro rest
  induction rest with
  | nil =>
    intro i hd hi
    have := drop_nil hi hd
    refine EvP.step (fun k => slices_Index_int64S.l0.eq_2 _ _ _ _ k) ?_
    simp only [if_neg (show ¬ (i : Int) < (l.length : Int) by omega)]
    exact EvP.now (by simp)
  | cons y rest ih =>
    intro i hd hi
    obtain ⟨hil, hy, hr⟩ := drop_at hd
    refine EvP.step (fun k => slices_Index_int64S.l0.eq_2 _ _ _ _ k) ?_
    simp only [if_pos (show (i : Int) < (l.length : Int) by omega), if_pos (show (0 : Int) ≤ (i : Int) by omega), rd_at l i hil, hy]
    by_cases ha : a = y
    · simp only [if_pos ha]
      exact EvP.now (by simp [ha])
    · simp only [if_neg ha, w64 (show -9223372036854775808 ≤ (i : Int) + 1 by omega) (by omega)]
      refine EvP.mono (ih (i + 1) hr (by omega)) (fun t ht => ?_)
      rw [ht, List.mem_cons]
      constructor
      · exact fun h => .inr h
      · rintro (h | h)
        · exact absurd h ha
        · exact h
theorem contains_ev (l : List Int) (a : Int) (hl : l.length ≤ 1048576) : Ev (fun k => slices_Contains_int64S.f k l a) (decide (a ∈ l)) := by
  unfold slices_Contains_int64S.f slices_Index_int64S.f
  apply EvP.eq
  refine EvP.bindP (index_from l a hl l 0 rfl (by omega)) (fun t ht => EvP.now ?_)
  rw [decide_eq_decide]
  exact ht
structure NetG (nodes : List Int) (l : List P) : Prop where
  n1 : 1 ≤ nodes.length
  n2 : nodes.length ≤ 16
  l2 : l.length ≤ 20
  w : Within nodes.length (E l)
  ne : ∀ p ∈ l, p.f1 ≠ p.f2
  ok : ∀ p ∈ l, pipeOkV p.f0 p.f1 p.f2 p.f3 p.f4 p.f5 = true
theorem netG {nodes : List Int} {l : List P} (h : netOk nodes l = true) : NetG nodes l := by
  unfold netOk at h
  simp only [Bool.and_eq_true, decide_eq_true_eq, List.all_eq_true, List.mem_range] at h
  obtain ⟨h1, ⟨h2, h3, h4⟩, h5⟩ := h
  have key : ∀ p ∈ l, pipeOkV p.f0 p.f1 p.f2 p.f3 p.f4 p.f5 = true ∧ inR p.f1 0 ((nodes.length : Int) - 1) = true ∧ inR p.f2 0 ((nodes.length : Int) - 1) = true := by
    intro p hp
    obtain ⟨i, hi, rfl⟩ := List.getElem_of_mem hp
    have := h5 i hi
    unfold pipeAt at this
    simp only [Bool.and_eq_true] at this
    have e : l.getD i z59 = l[i] := by simp [List.getD_eq_getElem?_getD, hi]
    rw [e] at this
    exact ⟨this.1, this.2.1.1, this.2.1.2⟩
  refine ⟨h2, h3, h4, ?_, ?_, fun p hp => (key p hp).1⟩
  · intro e he
    unfold E at he
    obtain ⟨p, hp, rfl⟩ := List.mem_map.1 he
    obtain ⟨_, k1, k2⟩ := key p hp
    rw [inR_iff] at k1 k2
    show 0 ≤ p.f1 ∧ p.f1 < (nodes.length : Int) ∧ 0 ≤ p.f2 ∧ p.f2 < (nodes.length : Int)
    omega
  · intro p hp
    have := (key p hp).1
    unfold pipeOkV at this
    simp only [Bool.and_eq_true, Bool.not_eq_true', decide_eq_false_iff_not] at this
    exact this.2.2.2.1
def opOf (cl : List Int) (i : Int) : Bool := !(decide (i ∈ cl))
def sortI (l : List Int) : List Int := l.mergeSort fun x y => decide (x ≤ y)
theorem sort_eq (l : List Int) (h : l.length ≤ 1048576) : slices_Sort_int64S.f l = some (sortI l) := by
  unfold slices_Sort_int64S.f
  rw [if_pos (by omega)]
  rfl
theorem getD_rd (l : List Int) (j : Nat) : rd l (j : Int) = l.getD j 0 := rfl
theorem reach_in (nodes : List Int) (l : List P) (cl : List Int) (src : Int) (kk : Nat) (u : Int) (hg : NetG nodes l) (hcl : cl.length ≤ 1048576) :
    ∀ (rest : List P) (i : Nat) (s : St) (r : List Int), l.drop i = rest → i ≤ l.length → Inv nodes.length (opOf cl) (E l) src kk s → kk < s.1.length → s.1.getD kk 0 = u →
    Ev (fun k => impl_Network_reached.l0 k cl (scan (opOf cl) u (rest.map ends) (i : Int) s).1 (((kk + 1 : Nat) : Int)) nodes l) r → Ev (fun k => impl_Network_reached.l1 k cl s.1 (kk : Int) l (l.length : Int) (i : Int) nodes l) r := by
  intro rest
  induction rest with
  | nil =>
    intro i s r hd hi h hk hu hr
    have := drop_nil hi hd
    have hn2 := hg.n2
    have hl2 := hg.l2
    have hsl := (nodup_le _ s.1 h.nd h.wi).1
    refine Ev.step (fun k => impl_Network_reached.l1.eq_2 _ _ _ _ _ _ _ _ k) ?_
    simp only [if_neg (show ¬ (i : Int) < (l.length : Int) by omega), w64 (show -9223372036854775808 ≤ (kk : Int) + 1 by omega) (by omega)]
    exact hr
  | cons p rest ih =>
    intro i s r hd hi h hk hu hr
    obtain ⟨hil, hy, hd'⟩ := drop_at hd
    have hn2 := hg.n2
    have hl2 := hg.l2
    have hsl := (nodup_le _ s.1 h.nd h.wi).1
    have hpi : (E l)[i]? = some (ends p) := E_at (by rw [List.getElem?_eq_getElem hil, hy])
    obtain ⟨g1, g2, g3, g4, g5⟩ := step_inv hg.w h hk hpi
    rw [hu] at g1 g2 g3 g4 g5
    have hnext := ih (i + 1) (stepS (opOf cl) u (ends p) (i : Int) s) r hd' (by omega) g1 (by omega) (by rw [g3 kk hk, hu]) (by
      rw [show (((i + 1 : Nat)) : Int) = (i : Int) + 1 by omega]
      exact hr)
    refine Ev.step (fun k => impl_Network_reached.l1.eq_2 _ _ _ _ _ _ _ _ k) ?_
    simp only [if_pos (show (i : Int) < (l.length : Int) by omega), if_pos (show (0 : Int) ≤ (i : Int) by omega), if_pos (show (0 : Int) ≤ (kk : Int) by omega), if_pos (show (kk : Int) < (s.1.length : Int) by omega), rdP l i hil, hy, getD_rd, hu, other_eq, Option.bind_some, w64 (show -9223372036854775808 ≤ (i : Int) + 1 by omega) (by omega)]
    unfold stepS at hnext
    rw [show ((i : Int) + 1) = ((i + 1 : Nat) : Int) by omega]
    cases ho : other (ends p) u with
    | none =>
      rw [ho] at hnext
      simp only [Bool.false_eq_true, if_false]
      exact hnext
    | some v =>
      rw [ho] at hnext
      dsimp only at hnext
      simp only [if_true]
      refine Ev.bind (contains_ev cl (i : Int) hcl) ?_
      by_cases hc : (i : Int) ∈ cl
      · simp only [decide_eq_true hc, if_true]
        rw [if_neg (fun hh => by have := hh.1; unfold opOf at this; simp [hc] at this)] at hnext
        exact hnext
      · simp only [decide_eq_false hc, Bool.false_eq_true, if_false]
        refine Ev.bind (contains_ev s.1 v (by omega)) ?_
        by_cases hv : v ∈ s.1
        · simp only [decide_eq_true hv, if_true]
          rw [if_neg (fun hh => hh.2 hv)] at hnext
          exact hnext
        · simp only [decide_eq_false hv, Bool.false_eq_true, if_false, if_pos (show s.1.length < 17592186044416 by omega)]
          rw [if_pos ⟨by unfold opOf; simp [hc], hv⟩] at hnext
          exact hnext
theorem reach_out (nodes : List Int) (l : List P) (cl : List Int) (src : Int) (hg : NetG nodes l) (hcl : cl.length ≤ 1048576) : ∀ (d kk : Nat) (s : St), Inv nodes.length (opOf cl) (E l) src kk s → nodes.length + 1 ≤ kk + d →
    Ev (fun k => impl_Network_reached.l0 k cl s.1 (kk : Int) nodes l) (sortI (bfs (opOf cl) (E l) d kk s).1) := by
  intro d
  induction d with
  | zero =>
    intro kk s h hd
    have := (nodup_le _ s.1 h.nd h.wi).1
    have := h.kl
    omega
  | succ d ih =>
    intro kk s h hd
    have hn2 := hg.n2
    have hsl := (nodup_le _ s.1 h.nd h.wi).1
    refine Ev.step (fun k => impl_Network_reached.l0.eq_2 _ _ _ _ _ k) ?_
    unfold bfs
    by_cases hk : kk < s.1.length
    · simp only [if_pos (show (kk : Int) < (s.1.length : Int) by omega), if_pos hk]
      have hin := scan_inv hg.w (E l) 0 s (s.1.getD kk 0) rfl (by omega) h hk rfl (by intro i' hi'; omega)
      have := reach_in nodes l cl src kk (s.1.getD kk 0) hg hcl l 0 s _ rfl (by omega) h hk rfl (ih (kk + 1) _ hin.1 (by omega))
      exact this
    · simp only [if_neg (show ¬ (kk : Int) < (s.1.length : Int) by omega), if_neg hk, sort_eq s.1 (by omega), Option.bind_some]
      exact Ev.now _
theorem reached_ev (nodes : List Int) (l : List P) (cl : List Int) (src : Int) (hg : NetG nodes l) (hcl : cl.length ≤ 1048576) (h0 : 0 ≤ src) (h1 : src < (nodes.length : Int)) :
    Ev (fun k => impl_Network_reached.f k nodes l src cl) (sortI (full (opOf cl) (E l) nodes.length src).1) :=
  reach_out nodes l cl src hg hcl (nodes.length + 1) 0 _ (start_inv h0 h1) (by omega)
def treeB (nodes : List Int) (l : List P) : Bool := decide (l.length + 1 = nodes.length) && decide ((merge (ids nodes.length) (E l)).2 = l.length)
theorem opens_all (F : List (Int × Int)) : (∀ e ∈ opens (opOf []) F, e ∈ F) ∧ ∀ e ∈ F, e ∈ opens (opOf []) F := by
  constructor
  · intro e he
    obtain ⟨i, hi, _⟩ := mem_opens.1 he
    exact List.mem_of_getElem? hi
  · intro e he
    obtain ⟨i, hi, rfl⟩ := List.getElem_of_mem he
    exact mem_opens.2 ⟨i, by rw [List.getElem?_eq_getElem hi], by simp [opOf]⟩
theorem conn_all {F : List (Int × Int)} {u v : Int} : Conn (opens (opOf []) F) u v ↔ Conn F u v := ⟨Conn.mono (opens_all F).1, Conn.mono (opens_all F).2⟩
theorem treeI (nodes : List Int) (l : List P) (hg : NetG nodes l) : Ev (fun k => impl_Network_isTree.f k nodes l) (treeB nodes l) := by
  have hn1 := hg.n1
  have hn2 := hg.n2
  unfold impl_Network_isTree.f treeB
  rw [w64 (by omega) (by omega)]
  by_cases hl : l.length + 1 = nodes.length
  · simp only [if_pos (show (l.length : Int) = (nodes.length : Int) - 1 by omega), decide_eq_true hl, Bool.true_and]
    refine Ev.bind (reached_ev nodes l [] 0 hg (by simp) (by omega) (by omega)) ?_
    have hi := full_inv (op := opOf []) (src := 0) hg.w (by omega) (by omega : (0 : Int) < (nodes.length : Int))
    have hf := hi.full
    have ht := tree_iff nodes.length hn1 (E l) hg.w
    have hsl : (sortI (full (opOf []) (E l) nodes.length 0).1).length = (full (opOf []) (E l) nodes.length 0).1.length := by unfold sortI; simp
    have e : (((sortI (full (opOf []) (E l) nodes.length 0).1).length : Int) == (nodes.length : Int)) = decide ((merge (ids nodes.length) (E l)).2 = l.length) := by
      rw [hsl, Bool.eq_iff_iff, beq_iff_eq, decide_eq_true_eq, show l.length = nodes.length - 1 by omega, ht]
      rw [show ((full (opOf []) (E l) nodes.length 0).1.length : Int) = (nodes.length : Int) ↔ (full (opOf []) (E l) nodes.length 0).1.length = nodes.length by omega, hf]
      exact ⟨fun h v h0 h1 => conn_all.1 (h v h0 h1), fun h v h0 h1 => conn_all.2 (h v h0 h1)⟩
    rw [e]
    exact Ev.now _
  · simp only [if_neg (show ¬ (l.length : Int) = (nodes.length : Int) - 1 by omega), decide_eq_false hl, Bool.false_and]
    exact Ev.now _
theorem relabel_from (nodes : List Int) (l : List P) (x3 : List Int) (a b : Int) (i : Nat) (q : List Int → Prop) : ∀ (rest pre : List Int), pre.length + rest.length ≤ 1048576 → (i : Int) + 1 ≤ 1048576 →
    EvP (fun k => spec_l04Tree.l1 k x3 (pre ++ relabel rest b a) ((i : Int) + 1) nodes l) q → EvP (fun k => spec_l04Tree.l2 k x3 (pre ++ rest) (i : Int) a b (pre.length : Int) nodes l) q := by
  intro rest
  induction rest with
  | nil =>
    intro pre hn hi h
    refine EvP.step (fun k => spec_l04Tree.l2.eq_2 _ _ _ _ _ _ _ _ k) ?_
    rw [show relabel [] b a = [] from rfl] at h
    simp only [List.append_nil] at h ⊢
    simp only [if_neg (show ¬ (pre.length : Int) < (pre.length : Int) by omega), w64 (show -9223372036854775808 ≤ (i : Int) + 1 by omega) (by omega)]
    exact h
  | cons y rest ih =>
    intro pre hn hi h
    rw [List.length_cons] at hn
    have hget : rd (pre ++ y :: rest) (pre.length : Int) = y := by rw [getD_rd]; simp [List.getD_eq_getElem?_getD]
    have hset : (pre ++ y :: rest).set pre.length a = (pre ++ [a]) ++ rest := by simp
    have hl : (pre ++ [y]).length = pre.length + 1 := by simp
    have hl' : (pre ++ [a]).length = pre.length + 1 := by simp
    refine EvP.step (fun k => spec_l04Tree.l2.eq_2 _ _ _ _ _ _ _ _ k) ?_
    simp only [if_pos (show (pre.length : Int) < ((pre ++ y :: rest).length : Int) by simp; omega), if_pos (show (0 : Int) ≤ (pre.length : Int) by omega), hget, Int.toNat_natCast, w64 (show -9223372036854775808 ≤ (pre.length : Int) + 1 by omega) (by omega)]
    by_cases hy : y = b
    · simp only [if_pos hy]
      have e : relabel (y :: rest) b a = a :: relabel rest b a := by unfold relabel; simp [hy]
      rw [e] at h
      have := ih (pre ++ [a]) (by omega) hi (by simpa using h)
      rw [hset]
      rw [hl'] at this
      exact this
    · simp only [if_neg hy]
      have e : relabel (y :: rest) b a = y :: relabel rest b a := by unfold relabel; simp [hy]
      rw [e] at h
      have := ih (pre ++ [y]) (by omega) hi (by simpa using h)
      rw [hl] at this
      simpa using this
theorem tree_in (nodes : List Int) (l : List P) (hg : NetG nodes l) : ∀ (rest : List P) (i : Nat) (x3 p : List Int), l.drop i = rest → i ≤ l.length → p.length = nodes.length → x3.length ≤ i →
    EvP (fun k => spec_l04Tree.l1 k x3 p (i : Int) nodes l) (fun t => t.length = x3.length + (merge p (rest.map ends)).2) := by
  intro rest
  induction rest with
  | nil =>
    intro i x3 p hd hi hp hx
    have := drop_nil hi hd
    refine EvP.step (fun k => spec_l04Tree.l1.eq_2 _ _ _ _ _ k) ?_
    simp only [if_neg (show ¬ (i : Int) < (l.length : Int) by omega)]
    exact EvP.now (by simp [merge])
  | cons y rest ih =>
    intro i x3 p hd hi hp hx
    obtain ⟨hil, hy, hd'⟩ := drop_at hd
    have hn2 := hg.n2
    have hl2 := hg.l2
    have hym : y ∈ l := by rw [← hy]; exact List.getElem_mem hil
    obtain ⟨w1, w2, w3, w4⟩ := hg.w (ends y) (List.mem_map_of_mem hym)
    simp only [ends] at w1 w2 w3 w4
    refine EvP.step (fun k => spec_l04Tree.l1.eq_2 _ _ _ _ _ k) ?_
    simp only [if_pos (show (i : Int) < (l.length : Int) by omega), if_pos (show (0 : Int) ≤ (i : Int) by omega), rdP l i hil, hy, if_pos w1, if_pos w3, if_pos (show y.f1 < (p.length : Int) by omega), if_pos (show y.f2 < (p.length : Int) by omega)]
    rw [List.map_cons]
    unfold merge
    have ea : rd p y.f1 = at_ p (ends y).1 := rfl
    have eb : rd p y.f2 = at_ p (ends y).2 := rfl
    rw [ea, eb]
    by_cases hc : at_ p (ends y).1 = at_ p (ends y).2
    · simp only [if_pos hc, w64 (show -9223372036854775808 ≤ (i : Int) + 1 by omega) (by omega)]
      exact ih (i + 1) x3 p hd' (by omega) hp (by omega)
    · simp only [if_neg hc, if_pos (show x3.length < 17592186044416 by omega)]
      have h := ih (i + 1) (x3 ++ [(i : Int)]) (relabel p (at_ p (ends y).2) (at_ p (ends y).1)) hd' (by omega) (by rw [relabel_len, hp]) (by simp; omega)
      have := relabel_from nodes l (x3 ++ [(i : Int)]) (at_ p (ends y).1) (at_ p (ends y).2) i (fun t => t.length = x3.length + ((merge (relabel p (at_ p (ends y).2) (at_ p (ends y).1)) (rest.map ends)).2 + 1)) p [] (by simp; omega) (by omega) (by
        refine EvP.mono h (fun t ht => ?_)
        rw [ht, List.length_append, List.length_singleton]
        omega)
      exact this
theorem ids_from (nodes : List Int) (l : List P) (q : List Int → Prop) (hn : nodes.length ≤ 16) (h : EvP (fun k => spec_l04Tree.l1 k [] (ids nodes.length) 0 nodes l) q) : EvP (fun k => spec_l04Tree.f k nodes l) q := by
  unfold spec_l04Tree.f
  refine for_evp (L := fun k (s : List Int) i => spec_l04Tree.l0 k [] s i nodes l) nodes.length (fun i s => s = ids i) ?_ ?_ [] rfl
  · rintro i s hi rfl K
    refine EvP.step (fun k => spec_l04Tree.l0.eq_2 _ _ _ _ _ k) ?_
    simp only [if_pos (show (i : Int) < (nodes.length : Int) by omega), ids_len, if_pos (show i < 17592186044416 by omega), w64 (show -9223372036854775808 ≤ (i : Int) + 1 by omega) (by omega)]
    refine K _ ?_
    unfold ids
    rw [List.range_succ, List.map_append]
    rfl
  · rintro s rfl
    refine EvP.step (fun k => spec_l04Tree.l0.eq_2 _ _ _ _ _ k) ?_
    simp only [if_neg (show ¬ (nodes.length : Int) < (nodes.length : Int) by omega)]
    exact h
theorem treeS (nodes : List Int) (l : List P) (hg : NetG nodes l) : Ev (fun k => spec_l04IsTree.f k nodes l) (treeB nodes l) := by
  have hn1 := hg.n1
  have hn2 := hg.n2
  unfold spec_l04IsTree.f treeB
  rw [w64 (by omega) (by omega)]
  by_cases hl : l.length + 1 = nodes.length
  · simp only [if_pos (show (l.length : Int) = (nodes.length : Int) - 1 by omega), decide_eq_true hl, Bool.true_and]
    apply EvP.eq
    refine EvP.bindP (ids_from nodes l _ hn2 (tree_in nodes l hg l 0 [] (ids nodes.length) rfl (by omega) (ids_len _) (by simp))) (fun t ht => EvP.now ?_)
    have ht' : t.length = (merge (ids nodes.length) (E l)).2 := by
      rw [List.length_nil, Nat.zero_add] at ht
      exact ht
    rw [← ht', Bool.eq_iff_iff, beq_iff_eq, decide_eq_true_eq]
    omega
  · simp only [if_neg (show ¬ (l.length : Int) = (nodes.length : Int) - 1 by omega), decide_eq_false hl, Bool.false_and]
    exact Ev.now _
end Go.Proofs.Ythnhchpgpnaamaa.PTree
end
