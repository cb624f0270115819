/- The law FnExactNodeReport: part 9 of its texts, joined (wip/pack.py). -/
import Derived.Test.YtadaegehdcngdaaGreatDoorKFnExactNodeReporta
import Derived.Test.YtadaegehdcngdaaGreatDoorKFnExactNodeReportb
import Derived.Test.YtadaegehdcngdaaGreatDoorKFnExactNodeReportc
import Derived.Test.YtadaegehdcngdaaGreatDoorKFnExactNodeReportd
import Derived.Test.YtadaegehdcngdaaGreatDoorKFnExactNodeReporte
import Derived.Test.YtadaegehdcngdaaGreatDoorKFnExactNodeReportf
import Derived.Test.YtadaegehdcngdaaGreatDoorKFnExactNodeReportg
import Derived.Test.YtadaegehdcngdaaGreatDoorKFnExactNodeReporth
import Derived.Test.YtadaegehdcngdaaGreatDoorKFnExactNodeReporti
import Derived.Deep.Slices
import Derived.SizedLaws
import Derived.ChangeArms
import Derived.WideShapes
import Derived.KernelRfl

section
namespace Go.Proofs.YtadaegehdcngdaaGreatDoor.XV
open Go.RowKit Go.Proofs.YtadaegehdcngdaaGreatDoorW.PrintWords Go.Proofs.YtadaegehdcngdaaGreatDoorW.PrintLast Go.Proofs.YtadaegehdcngdaaGreatDoorW.PrintMore
attribute [local go_sem] run_eql_slice_nil binOp_string_gtr' binOp_string_leq' binOp_string_geq' max2_int min2_int max_two min_two max_three min_three max_four min_four   -- for this text's walks alone
set_option linter.unusedVariables false
set_option linter.unusedSimpArgs false
mutual
def laws_FnExactNodeReport.j0 : Nat → List Int → List ByteArray → Int → List Int → List ByteArray → Int → Bool → List Int → List (S86) → List Int → List (S58) → Option (Bool)
 | 0, _, _, _, _, _, _, _, _, _, _, _ => none
 | k + 1, x1, x6, x7, x9, x10, x11, x51, x342000, x342001, x363000, x363001 => if x51 = true then (some false) else ((laws_toNetwork.f k x342000 x342001).bind fun bt371 => ((laws_eqNetwork.f k x363000 x363001 bt371.1 bt371.2).bind fun t377 => (if t377 = true then ((laws_toInt64S.f k x1).bind fun t378 => ((laws_eqInt64S.f k x9 t378).bind fun t381 => (if t381 = true then ((laws_markNetwork.f k x363000 x363001 1).bind fun bt382 => ((laws_markInt64S.f k x9 bt382.1).bind fun bt385 => (if bt385.1 < 0 then (laws_FnExactNodeReport.j1 k x1 x6 x7 x10 true x342000 x342001) else ((laws_eqStringS.f k x10 x6).bind fun t387 => (if t387 = true then (laws_FnExactNodeReport.j1 k x1 x6 x7 x10 (x11 != x7) x342000 x342001) else (laws_FnExactNodeReport.j1 k x1 x6 x7 x10 true x342000 x342001)))))) else (some false)))) else (some false))))
def laws_FnExactNodeReport.j1 : Nat → List Int → List ByteArray → Int → List ByteArray → Bool → List Int → List (S86) → Option (Bool)
 | 0, _, _, _, _, _, _, _ => none
 | k + 1, x1, x6, x7, x10, x80, x342000, x342001 => if x80 = true then (some false) else ((laws_markStringS.f k x10 1).bind fun bt388 => ((laws_heldStringS.f k bt388.2 1).bind fun t390 => (if t390 < 0 then (some false) else (if t390 = bt388.1 then ((laws_toNetwork.f k x342000 x342001).bind fun bt391 => ((laws_toInt64S.f k x1).bind fun t397 => ((impl_NodeReport.f k bt391.1 bt391.2 t397).bind fun bt400 => ((laws_eqStringS.f k bt400.1 x6).bind fun t404 => (if t404 = true then (laws_FnExactNodeReport.j2 k bt388.2 bt388.1 (bt400.2 != x7)) else (laws_FnExactNodeReport.j2 k bt388.2 bt388.1 true)))))) else (some false)))))
def laws_FnExactNodeReport.j2 : Nat → List ByteArray → Int → Bool → Option (Bool)
 | 0, _, _, _ => none
 | k + 1, x10, x13, x108 => if x108 = true then (some false) else ((laws_heldStringS.f k x10 1).bind fun t405 => (if t405 < 0 then (some false) else (if t405 = x13 then (some true) else (some false))))
end
def laws_FnExactNodeReport.f (k : Nat) (l0_0 : List Int) (l0_1 : List (S86)) (l1 : List Int) : Option (Bool) := if (l1.length : Int) > 1048576 then (some true) else ((laws_szNetwork.f k l0_0 l0_1 1048576).bind fun t342 => (if t342 < 0 then (some true) else ((laws_toNetwork.f k l0_0 l0_1).bind fun bt343 => ((laws_toInt64S.f k l1).bind fun t349 => ((spec_NodeReport.f k bt343.1 bt343.2 t349).bind fun bt352 => ((laws_toNetwork.f k l0_0 l0_1).bind fun bt356 => ((laws_toInt64S.f k l1).bind fun t363 => ((impl_NodeReport.f k bt356.1 bt356.2 t363).bind fun bt366 => ((laws_eqStringS.f k bt366.1 bt352.1).bind fun t370 => (if t370 = true then (laws_FnExactNodeReport.j0 k l1 bt352.1 bt352.2 t363 bt366.1 bt366.2 (bt366.2 != bt352.2) l0_0 l0_1 bt356.1 bt356.2) else (laws_FnExactNodeReport.j0 k l1 bt352.1 bt352.2 t363 bt366.1 bt366.2 true l0_0 l0_1 bt356.1 bt356.2)))))))))))
set_option maxHeartbeats 8000000 in
set_option maxRecDepth 100000 in
theorem laws_FnExactNodeReport.calls (k : Nat) (A0_0 : Option Addr) (c0_0 : Nat) (l0_0 : List Int) (A0_1 : Option Addr) (c0_1 : Nat) (l0_1 : List (S86)) (A1 : Option Addr) (c1 : Nat) (l1 : List Int) (r : Bool) (w : World) (hr0_0 : Kd.C (Kd.int .i64) w A0_0 l0_0.length l0_0) (hc0_0 : l0_0.length ≤ c0_0) (hr0_1 : Kd.C k86 w A0_1 l0_1.length l0_1) (hc0_1 : l0_1.length ≤ c0_1) (hr1 : Kd.C (Kd.int .i64) w A1 l1.length l1) (hc1 : l1.length ≤ c1) (hSH : ShT Tryz.prog w) (h : laws_FnExactNodeReport.f k l0_0 l0_1 l1 = some r) :
  Calls Tryz.prog 3 #[.agg #[.slice A0_0 l0_0.length c0_0, .slice A0_1 l0_1.length c0_1], .slice A1 l1.length c1] w fun e w' => e = .returned (.bool r) ∧ Below w.heap.size w w' := by
 have hu25 := Tryz.underlying25
 have hu32 := Tryz.underlying32
 have HR0_0 := Aside0.mk hr0_0
 have HC0_0 := Aside0.mk hc0_0
 clear hr0_0 hc0_0
 have HR0_1 := Aside0.mk hr0_1
 have HC0_1 := Aside0.mk hc0_1
 clear hr0_1 hc0_1
 have HR1 := Aside0.mk hr1
 have HC1 := Aside0.mk hc1
 clear hr1 hc1
 have HB := Aside0.mk (Below.refl w.heap.size w)
 have HSH := Aside0.mk hSH
 clear hSH
 have H : (if (l1.length : Int) > 1048576 then (some true) else ((laws_szNetwork.f k l0_0 l0_1 1048576).bind fun t342 => (if t342 < 0 then (some true) else ((laws_toNetwork.f k l0_0 l0_1).bind fun bt343 => ((laws_toInt64S.f k l1).bind fun t349 => ((spec_NodeReport.f k bt343.1 bt343.2 t349).bind fun bt352 => ((laws_toNetwork.f k l0_0 l0_1).bind fun bt356 => ((laws_toInt64S.f k l1).bind fun t363 => ((impl_NodeReport.f k bt356.1 bt356.2 t363).bind fun bt366 => ((laws_eqStringS.f k bt366.1 bt352.1).bind fun t370 => (if t370 = true then (laws_FnExactNodeReport.j0 k l1 bt352.1 bt352.2 t363 bt366.1 bt366.2 (bt366.2 != bt352.2) l0_0 l0_1 bt356.1 bt356.2) else (laws_FnExactNodeReport.j0 k l1 bt352.1 bt352.2 t363 bt366.1 bt366.2 true l0_0 l0_1 bt356.1 bt356.2)))))))))))) = some r := h
 clear h
 by_cases c3 : (l1.length : Int) > 1048576
 ·rw [if_pos c3] at H
  have c3b0 : decide (1048576 < (l1.length : Int)) = true := decide_eq_true c3
  have c3b1 : decide (1048576 < l1.length) = true := decide_eq_true (by omega)
  clear c3
  obtain rfl := Option.some.inj H
  go_enter Tryz.func3, Tryz.ntmps3
  go_wp2_with (first | ((with_reducible refine gate_dst (N := 2) rfl ?_); refine boxZ 2 #[.slice A0_0 l0_0.length c0_0, .slice A0_1 l0_1.length c0_1] 25 rfl rfl ?_; intro gb341 hg w4 hbox hb; have n0_ := Aside0.mk (below_step bZ hb); have n1_ := Aside0.mk (hbox); have n2_ := Aside0.mk ((by rw [hg]; exact bsZ : w.heap.size ≤ gb341)); have n3_ := Aside0.mk ((by rw [hg]; exact bsZ : w.heap.size ≤ gb341)); clear HB; have HB := n0_; have BK341 := n1_; have GW341 := n2_; have GE341 := n3_; clear n0_ n1_ n2_ n3_; clear hb hbox hg))
  go_ret
  exact ⟨eZ, bZ⟩
 ·rw [if_neg c3] at H
  have c3b0 : decide (1048576 < (l1.length : Int)) = false := decide_eq_false c3
  have c3b1 : decide (1048576 < l1.length) = false := decide_eq_false (by omega)
  clear c3
  replace H := Option.bind_eq_some_iff.mp H
  obtain ⟨t342, A50, H⟩ := H
  replace H : (if t342 < 0 then (some true) else ((laws_toNetwork.f k l0_0 l0_1).bind fun bt343 => ((laws_toInt64S.f k l1).bind fun t349 => ((spec_NodeReport.f k bt343.1 bt343.2 t349).bind fun bt352 => ((laws_toNetwork.f k l0_0 l0_1).bind fun bt356 => ((laws_toInt64S.f k l1).bind fun t363 => ((impl_NodeReport.f k bt356.1 bt356.2 t363).bind fun bt366 => ((laws_eqStringS.f k bt366.1 bt352.1).bind fun t370 => (if t370 = true then (laws_FnExactNodeReport.j0 k l1 bt352.1 bt352.2 t363 bt366.1 bt366.2 (bt366.2 != bt352.2) l0_0 l0_1 bt356.1 bt356.2) else (laws_FnExactNodeReport.j0 k l1 bt352.1 bt352.2 t363 bt366.1 bt366.2 true l0_0 l0_1 bt356.1 bt356.2)))))))))) = some r := H
  have A5 := Aside0.mk A50
  clear A50
  by_cases c6 : t342 < 0
  ·rw [if_pos c6] at H
   have c6b0 : decide (t342 < 0) = true := decide_eq_true c6
   clear c6
   obtain rfl := Option.some.inj H
   go_enter Tryz.func3, Tryz.ntmps3
   go_wp2_with (first | ((with_reducible refine gate_dst (N := 2) rfl ?_); refine boxZ 2 #[.slice A0_0 l0_0.length c0_0, .slice A0_1 l0_1.length c0_1] 25 rfl rfl ?_; intro gb341 hg w7 hbox hb; have n0_ := Aside0.mk (below_step bZ hb); have n1_ := Aside0.mk (hbox); have n2_ := Aside0.mk ((by rw [hg]; exact bsZ : w.heap.size ≤ gb341)); have n3_ := Aside0.mk ((by rw [hg]; exact bsZ : w.heap.size ≤ gb341)); clear HB; have HB := n0_; have BK341 := n1_; have GW341 := n2_; have GE341 := n3_; clear n0_ n1_ n2_ n3_; clear hb hbox hg; have hcz8_0 := bc0 BK341.out; have hcz8_1 := bc1 BK341.out; have hfz8_0 := blk_frozen BK341.out 0; have hfz8_1 := blk_frozen BK341.out 1) | ((with_reducible refine gate_callee (f := 6) rfl ?_); refine goesL_ (some 22) rfl rfl Tryz.func6 (by kernel_rfl) rfl #[.agg #[.slice A0_0 l0_0.length c0_0, .slice A0_1 l0_1.length c0_1], .int .i64 1048576] rfl gZ ?_; (with_reducible refine (laws_szNetwork.calls k _ _ l0_0 _ _ l0_1 1048576 t342 _ ?side1 ?side2 ?side3 ?side4 A5.out).mono ?_); (case side1 => repeat (first | exact (Kd.C_below HR0_0.out HB.out) | (with_reducible refine Kd.C_alloc ?_ _) | (with_reducible refine Kd.C_drewN ?_ _) | (with_reducible refine Kd.C_drew ?_))); (case side2 => exact HC0_0.out); (case side3 => repeat (first | exact (Kd.C_below HR0_1.out HB.out) | (with_reducible refine Kd.C_alloc ?_ _) | (with_reducible refine Kd.C_drewN ?_ _) | (with_reducible refine Kd.C_drew ?_))); (case side4 => exact HC0_1.out); rintro e w9 ⟨rfl, hb⟩; refine ⟨_, rfl, ?_⟩; have n0_ := Aside0.mk (blk_below (g := gb341) (o := .cells #[.slice A0_0 l0_0.length c0_0, .slice A0_1 l0_1.length c0_1] 25 (0, 0)) (kZ BK341.out) hb); have n1_ := Aside0.mk (below_step bZ hb); clear BK341; clear HB; have BK341 := n0_; have HB := n1_; clear n0_ n1_; (try clear hb); (try clear hb2); (try clear hk); (try clear hi)))
   go_ret
   exact ⟨eZ, bZ⟩
  ·rw [if_neg c6] at H
   have c6b0 : decide (t342 < 0) = false := decide_eq_false c6
   clear c6
   replace H := Option.bind_eq_some_iff.mp H
   obtain ⟨⟨t343, t346⟩, A100, H⟩ := H
   replace H : ((laws_toInt64S.f k l1).bind fun t349 => ((spec_NodeReport.f k t343 t346 t349).bind fun bt352 => ((laws_toNetwork.f k l0_0 l0_1).bind fun bt356 => ((laws_toInt64S.f k l1).bind fun t363 => ((impl_NodeReport.f k bt356.1 bt356.2 t363).bind fun bt366 => ((laws_eqStringS.f k bt366.1 bt352.1).bind fun t370 => (if t370 = true then (laws_FnExactNodeReport.j0 k l1 bt352.1 bt352.2 t363 bt366.1 bt366.2 (bt366.2 != bt352.2) l0_0 l0_1 bt356.1 bt356.2) else (laws_FnExactNodeReport.j0 k l1 bt352.1 bt352.2 t363 bt366.1 bt366.2 true l0_0 l0_1 bt356.1 bt356.2)))))))) = some r := H
   have A10 := Aside0.mk A100
   clear A100
   replace H := Option.bind_eq_some_iff.mp H
   obtain ⟨t349, A110, H⟩ := H
   replace H : ((spec_NodeReport.f k t343 t346 t349).bind fun bt352 => ((laws_toNetwork.f k l0_0 l0_1).bind fun bt356 => ((laws_toInt64S.f k l1).bind fun t363 => ((impl_NodeReport.f k bt356.1 bt356.2 t363).bind fun bt366 => ((laws_eqStringS.f k bt366.1 bt352.1).bind fun t370 => (if t370 = true then (laws_FnExactNodeReport.j0 k l1 bt352.1 bt352.2 t363 bt366.1 bt366.2 (bt366.2 != bt352.2) l0_0 l0_1 bt356.1 bt356.2) else (laws_FnExactNodeReport.j0 k l1 bt352.1 bt352.2 t363 bt366.1 bt366.2 true l0_0 l0_1 bt356.1 bt356.2))))))) = some r := H
   have A11 := Aside0.mk A110
   clear A110
   replace H := Option.bind_eq_some_iff.mp H
   obtain ⟨⟨t352, t355⟩, A120, H⟩ := H
   replace H : ((laws_toNetwork.f k l0_0 l0_1).bind fun bt356 => ((laws_toInt64S.f k l1).bind fun t363 => ((impl_NodeReport.f k bt356.1 bt356.2 t363).bind fun bt366 => ((laws_eqStringS.f k bt366.1 t352).bind fun t370 => (if t370 = true then (laws_FnExactNodeReport.j0 k l1 t352 t355 t363 bt366.1 bt366.2 (bt366.2 != t355) l0_0 l0_1 bt356.1 bt356.2) else (laws_FnExactNodeReport.j0 k l1 t352 t355 t363 bt366.1 bt366.2 true l0_0 l0_1 bt356.1 bt356.2)))))) = some r := H
   have A12 := Aside0.mk A120
   clear A120
   replace H := Option.bind_eq_some_iff.mp H
   obtain ⟨⟨t356, t359⟩, A130, H⟩ := H
   replace H : ((laws_toInt64S.f k l1).bind fun t363 => ((impl_NodeReport.f k t356 t359 t363).bind fun bt366 => ((laws_eqStringS.f k bt366.1 t352).bind fun t370 => (if t370 = true then (laws_FnExactNodeReport.j0 k l1 t352 t355 t363 bt366.1 bt366.2 (bt366.2 != t355) l0_0 l0_1 t356 t359) else (laws_FnExactNodeReport.j0 k l1 t352 t355 t363 bt366.1 bt366.2 true l0_0 l0_1 t356 t359))))) = some r := H
   have A13 := Aside0.mk A130
   clear A130
   replace H := Option.bind_eq_some_iff.mp H
   obtain ⟨t363, A140, H⟩ := H
   replace H : ((impl_NodeReport.f k t356 t359 t363).bind fun bt366 => ((laws_eqStringS.f k bt366.1 t352).bind fun t370 => (if t370 = true then (laws_FnExactNodeReport.j0 k l1 t352 t355 t363 bt366.1 bt366.2 (bt366.2 != t355) l0_0 l0_1 t356 t359) else (laws_FnExactNodeReport.j0 k l1 t352 t355 t363 bt366.1 bt366.2 true l0_0 l0_1 t356 t359)))) = some r := H
   have A14 := Aside0.mk A140
   clear A140
   replace H := Option.bind_eq_some_iff.mp H
   obtain ⟨⟨t366, t369⟩, A150, H⟩ := H
   replace H : ((laws_eqStringS.f k t366 t352).bind fun t370 => (if t370 = true then (laws_FnExactNodeReport.j0 k l1 t352 t355 t363 t366 t369 (t369 != t355) l0_0 l0_1 t356 t359) else (laws_FnExactNodeReport.j0 k l1 t352 t355 t363 t366 t369 true l0_0 l0_1 t356 t359))) = some r := H
   have A15 := Aside0.mk A150
   clear A150
   have HC16 := Aside0.mk H
   clear H
   go_enter Tryz.func3, Tryz.ntmps3
   go_upto_region 11 with (first | ((with_reducible refine gate_dst (N := 2) rfl ?_); refine boxZ 2 #[.slice A0_0 l0_0.length c0_0, .slice A0_1 l0_1.length c0_1] 25 rfl rfl ?_; intro gb341 hg w17 hbox hb; have n0_ := Aside0.mk (below_step bZ hb); have n1_ := Aside0.mk (hbox); have n2_ := Aside0.mk ((by rw [hg]; exact bsZ : w.heap.size ≤ gb341)); have n3_ := Aside0.mk ((by rw [hg]; exact bsZ : w.heap.size ≤ gb341)); clear HB; have HB := n0_; have BK341 := n1_; have GW341 := n2_; have GE341 := n3_; clear n0_ n1_ n2_ n3_; clear hb hbox hg; have hcz18_0 := bc0 BK341.out; have hcz18_1 := bc1 BK341.out; have hfz18_0 := blk_frozen BK341.out 0; have hfz18_1 := blk_frozen BK341.out 1) | ((with_reducible refine gate_callee (f := 6) rfl ?_); refine goesL_ (some 22) rfl rfl Tryz.func6 (by kernel_rfl) rfl #[.agg #[.slice A0_0 l0_0.length c0_0, .slice A0_1 l0_1.length c0_1], .int .i64 1048576] rfl gZ ?_; (with_reducible refine (laws_szNetwork.calls k _ _ l0_0 _ _ l0_1 1048576 t342 _ ?side1 ?side2 ?side3 ?side4 A5.out).mono ?_); (case side1 => repeat (first | exact (Kd.C_below HR0_0.out HB.out) | (with_reducible refine Kd.C_alloc ?_ _) | (with_reducible refine Kd.C_drewN ?_ _) | (with_reducible refine Kd.C_drew ?_))); (case side2 => exact HC0_0.out); (case side3 => repeat (first | exact (Kd.C_below HR0_1.out HB.out) | (with_reducible refine Kd.C_alloc ?_ _) | (with_reducible refine Kd.C_drewN ?_ _) | (with_reducible refine Kd.C_drew ?_))); (case side4 => exact HC0_1.out); rintro e w19 ⟨rfl, hb⟩; refine ⟨_, rfl, ?_⟩; have n0_ := Aside0.mk (blk_below (g := gb341) (o := .cells #[.slice A0_0 l0_0.length c0_0, .slice A0_1 l0_1.length c0_1] 25 (0, 0)) (kZ BK341.out) hb); have n1_ := Aside0.mk (below_step bZ hb); clear BK341; clear HB; have BK341 := n0_; have HB := n1_; clear n0_ n1_; (try clear hb); (try clear hb2); (try clear hk); (try clear hi); have hcz20_0 := bc0 BK341.out; have hcz20_1 := bc1 BK341.out; have hfz20_0 := blk_frozen BK341.out 0; have hfz20_1 := blk_frozen BK341.out 1) | ((with_reducible refine gate_callee (f := 8) rfl ?_); refine goesL_ (some 27) rfl rfl Tryz.func8 (by kernel_rfl) rfl #[.agg #[.slice A0_0 l0_0.length c0_0, .slice A0_1 l0_1.length c0_1]] rfl gZ ?_; (with_reducible refine (laws_toNetwork.calls k _ _ l0_0 _ _ l0_1 t343 t346 _ ?side1 ?side2 ?side3 ?side4 A10.out).mono ?_); (case side1 => repeat (first | exact (Kd.C_below HR0_0.out HB.out) | (with_reducible refine Kd.C_alloc ?_ _) | (with_reducible refine Kd.C_drewN ?_ _) | (with_reducible refine Kd.C_drew ?_))); (case side2 => exact HC0_0.out); (case side3 => repeat (first | exact (Kd.C_below HR0_1.out HB.out) | (with_reducible refine Kd.C_alloc ?_ _) | (with_reducible refine Kd.C_drewN ?_ _) | (with_reducible refine Kd.C_drew ?_))); (case side4 => exact HC0_1.out); rintro e w21 ⟨v344, v347, rfl, ho0, ho1, hb⟩; refine ⟨_, rfl, ?_⟩; have n0_ := Aside0.mk (Kd.R_lower ho0 bsZ); have n1_ := Aside0.mk (Kd.R_lower ho1 bsZ); have n2_ := Aside0.mk (blk_below (g := gb341) (o := .cells #[.slice A0_0 l0_0.length c0_0, .slice A0_1 l0_1.length c0_1] 25 (0, 0)) (kZ BK341.out) hb); have n3_ := Aside0.mk (below_step bZ hb); clear BK341; clear HB; have HO345 := n0_; have HO348 := n1_; have BK341 := n2_; have HB := n3_; clear n0_ n1_ n2_ n3_; (try clear hb); (try clear hb2); (try clear hk); (try clear hi); (try clear ho0); (try clear ho1)) | ((with_reducible refine gate_callee (f := 9) rfl ?_); refine goesL_ (some 29) rfl rfl Tryz.func9 (by kernel_rfl) rfl #[.slice A1 l1.length c1] rfl gZ ?_; (with_reducible refine (laws_toInt64S.calls k _ _ l1 t349 _ ?side1 ?side2 A11.out).mono ?_); (case side1 => repeat (first | exact (Kd.C_below HR1.out HB.out) | (with_reducible refine Kd.C_alloc ?_ _) | (with_reducible refine Kd.C_drewN ?_ _) | (with_reducible refine Kd.C_drew ?_))); (case side2 => exact HC1.out); rintro e w22 ⟨v350, rfl, ho0, hb⟩; refine ⟨_, rfl, ?_⟩; have n0_ := Aside0.mk (Kd.R_elder' (Kd.rZ HO345.out) (Kd.R_base ho0) hb); have n1_ := Aside0.mk (Kd.R_below (Kd.rZ HO348.out) hb); have n2_ := Aside0.mk (Kd.R_lower (Kd.R_new' ho0 (Kd.R_lt (Kd.rZ HO345.out))) bsZ); have n3_ := Aside0.mk (blk_below (g := gb341) (o := .cells #[.slice A0_0 l0_0.length c0_0, .slice A0_1 l0_1.length c0_1] 25 (0, 0)) (kZ BK341.out) hb); have n4_ := Aside0.mk (below_step bZ hb); clear HO345; clear HO348; clear BK341; clear HB; have HO345 := n0_; have HO348 := n1_; have HO351 := n2_; have BK341 := n3_; have HB := n4_; clear n0_ n1_ n2_ n3_ n4_; (try clear hb); (try clear hb2); (try clear hk); (try clear hi); (try clear ho0); obtain ⟨Ao23, co23, eo23⟩ := Kd.R_slice HO345.out; subst eo23; obtain ⟨Ao24, co24, eo24⟩ := Kd.R_slice HO348.out; subst eo24; obtain ⟨Ao25, co25, eo25⟩ := Kd.R_slice HO351.out; subst eo25) | ((with_reducible refine gate_callee (f := 7) rfl ?_); refine goesL_ (some 30) rfl rfl Tryz.func7 (by kernel_rfl) rfl #[.agg #[.slice Ao23 t343.length co23, .slice Ao24 t346.length co24], .slice Ao25 t349.length co25] rfl gZ ?_; (with_reducible refine (spec_NodeReport.calls k _ _ t343 _ _ t346 _ _ t349 t352 t355 _ ?side1 ?side2 ?side3 ?side4 ?side5 ?side6 A12.out).mono ?_); (case side1 => exact Kd.cZ HO345.out); (case side2 => exact (Kd.R_reads' HO345.out).2.1); (case side3 => exact Kd.cZ HO348.out); (case side4 => exact (Kd.R_reads' HO348.out).2.1); (case side5 => exact Kd.cZ HO351.out); (case side6 => exact (Kd.R_reads' HO351.out).2.1); rintro e w26 ⟨v353, rfl, ho0, hb⟩; refine ⟨_, rfl, ?_⟩; have n0_ := Aside0.mk (Kd.R_below (Kd.rZ HO345.out) hb); have n1_ := Aside0.mk (Kd.R_below (Kd.rZ HO348.out) hb); have n2_ := Aside0.mk (Kd.R_below (Kd.rZ HO351.out) hb); have n3_ := Aside0.mk (Kd.R_lower ho0 bsZ); have n4_ := Aside0.mk (blk_below (g := gb341) (o := .cells #[.slice A0_0 l0_0.length c0_0, .slice A0_1 l0_1.length c0_1] 25 (0, 0)) (kZ BK341.out) hb); have n5_ := Aside0.mk (below_step bZ hb); clear HO345; clear HO348; clear HO351; clear BK341; clear HB; have HO345 := n0_; have HO348 := n1_; have HO351 := n2_; have HO354 := n3_; have BK341 := n4_; have HB := n5_; clear n0_ n1_ n2_ n3_ n4_ n5_; (try clear hb); (try clear hb2); (try clear hk); (try clear hi); (try clear ho0); have hcz27_0 := bc0 BK341.out; have hcz27_1 := bc1 BK341.out; have hfz27_0 := blk_frozen BK341.out 0; have hfz27_1 := blk_frozen BK341.out 1) | ((with_reducible refine gate_callee (f := 8) rfl ?_); refine goesL_ (some 34) rfl rfl Tryz.func8 (by kernel_rfl) rfl #[.agg #[.slice A0_0 l0_0.length c0_0, .slice A0_1 l0_1.length c0_1]] rfl gZ ?_; (with_reducible refine (laws_toNetwork.calls k _ _ l0_0 _ _ l0_1 t356 t359 _ ?side1 ?side2 ?side3 ?side4 A13.out).mono ?_); (case side1 => repeat (first | exact (Kd.C_below HR0_0.out HB.out) | (with_reducible refine Kd.C_alloc ?_ _) | (with_reducible refine Kd.C_drewN ?_ _) | (with_reducible refine Kd.C_drew ?_))); (case side2 => exact HC0_0.out); (case side3 => repeat (first | exact (Kd.C_below HR0_1.out HB.out) | (with_reducible refine Kd.C_alloc ?_ _) | (with_reducible refine Kd.C_drewN ?_ _) | (with_reducible refine Kd.C_drew ?_))); (case side4 => exact HC0_1.out); rintro e w28 ⟨v357, v360, rfl, ho0, ho1, hb⟩; refine ⟨_, rfl, ?_⟩; have n0_ := Aside0.mk (Kd.R_elder' (Kd.rZ HO345.out) (Kd.R_base ho0) hb); have n1_ := Aside0.mk (Kd.R_elder' (Kd.rZ HO348.out) (Kd.R_base ho1) hb); have n2_ := Aside0.mk (Kd.R_elder' (Kd.rZ HO351.out) (Kd.R_base ho0) hb); have n3_ := Aside0.mk (Kd.R_below (Kd.rZ HO354.out) hb); have n4_ := Aside0.mk (Kd.R_lower (Kd.R_new' (Kd.R_new' ho0 (Kd.R_lt (Kd.rZ HO345.out))) (Kd.R_lt (Kd.rZ HO351.out))) bsZ); have n5_ := Aside0.mk (Kd.R_lower (Kd.R_new' ho1 (Kd.R_lt (Kd.rZ HO348.out))) bsZ); have n6_ := Aside0.mk (blk_below (g := gb341) (o := .cells #[.slice A0_0 l0_0.length c0_0, .slice A0_1 l0_1.length c0_1] 25 (0, 0)) (kZ BK341.out) hb); have n7_ := Aside0.mk (below_step bZ hb); clear HO345; clear HO348; clear HO351; clear HO354; clear BK341; clear HB; have HO345 := n0_; have HO348 := n1_; have HO351 := n2_; have HO354 := n3_; have HO358 := n4_; have HO361 := n5_; have BK341 := n6_; have HB := n7_; clear n0_ n1_ n2_ n3_ n4_ n5_ n6_ n7_; (try clear hb); (try clear hb2); (try clear hk); (try clear hi); (try clear ho0); (try clear ho1)) | ((with_reducible refine gate_dst (N := 8) rfl ?_); refine boxZ 8 #[.slice none 0 0, .slice none 0 0] 32 rfl rfl ?_; intro gb362 hg w29 hbox hb; have n0_ := Aside0.mk (Kd.R_below (Kd.rZ HO345.out) hb); have n1_ := Aside0.mk (Kd.R_below (Kd.rZ HO348.out) hb); have n2_ := Aside0.mk (Kd.R_below (Kd.rZ HO351.out) hb); have n3_ := Aside0.mk (Kd.R_below (Kd.rZ HO354.out) hb); have n4_ := Aside0.mk (Kd.R_below (Kd.rZ HO358.out) hb); have n5_ := Aside0.mk (Kd.R_below (Kd.rZ HO361.out) hb); have n6_ := Aside0.mk (blk_below (g := gb341) (o := .cells #[.slice A0_0 l0_0.length c0_0, .slice A0_1 l0_1.length c0_1] 25 (0, 0)) (kZ BK341.out) hb); have n7_ := Aside0.mk (below_step bZ hb); have n8_ := Aside0.mk (hbox); have n9_ := Aside0.mk ((by rw [hg]; exact bsZ : w.heap.size ≤ gb362)); have n10_ := Aside0.mk ((by rw [hg]; exact bsZ : w.heap.size ≤ gb362)); have n11_ := Aside0.mk ((by rw [hg]; exact Nat.ne_of_lt (blk_lt (g := gb341) (o := .cells #[.slice A0_0 l0_0.length c0_0, .slice A0_1 l0_1.length c0_1] 25 (0, 0)) (kZ BK341.out)) : gb341 ≠ gb362)); have n12_ := Aside0.mk ((by rw [hg]; exact Nat.ne_of_gt (blk_lt (g := gb341) (o := .cells #[.slice A0_0 l0_0.length c0_0, .slice A0_1 l0_1.length c0_1] 25 (0, 0)) (kZ BK341.out)) : gb362 ≠ gb341)); clear HO345; clear HO348; clear HO351; clear HO354; clear HO358; clear HO361; clear BK341; clear HB; have HO345 := n0_; have HO348 := n1_; have HO351 := n2_; have HO354 := n3_; have HO358 := n4_; have HO361 := n5_; have BK341 := n6_; have HB := n7_; have BK362 := n8_; have GW362 := n9_; have GE362 := n10_; have NB341_362 := n11_; have NB362_341 := n12_; clear n0_ n1_ n2_ n3_ n4_ n5_ n6_ n7_ n8_ n9_ n10_ n11_ n12_; clear hb hbox hg; obtain ⟨Ao30, co30, eo30⟩ := Kd.R_slice HO358.out; subst eo30; have hnb31 := NB362_341.out; have hnc31 := NB341_362.out; have hcz32_0 := bc0 BK362.out; have hcz32_1 := bc1 BK362.out; have hfz32_0 := blk_frozen BK362.out 0; have hfz32_1 := blk_frozen BK362.out 1; obtain ⟨Ao33, co33, eo33⟩ := Kd.R_slice HO361.out; subst eo33) | ((with_reducible refine gate_callee (f := 9) rfl ?_); refine goesL_ (some 36) rfl rfl Tryz.func9 (by kernel_rfl) rfl #[.slice A1 l1.length c1] rfl gZ ?_; (with_reducible refine (laws_toInt64S.calls k _ _ l1 t363 _ ?side1 ?side2 A14.out).mono ?_); (case side1 => exact Kd.C_below HR1.out bZ); (case side2 => exact HC1.out); rintro e w34 ⟨v364, rfl, ho0, hb⟩; refine ⟨_, rfl, ?_⟩; have n0_ := Aside0.mk (Kd.R_elder' (Kd.rZ ((Kd.R_mono (Kd.R_far (p := ⟨gb362, 1, none⟩) (Kd.R_far (p := ⟨gb362, 0, none⟩) (Kd.R_types HO345.out BK362.out (by decide)) (fun _ hk => hk.2) (.slice Ao30 t356.length co30)) (fun _ hk => hk.2) (.slice Ao33 t359.length co33)) (fun _ h_ => h_.1)))) (Kd.R_base ho0) hb); have n1_ := Aside0.mk (Kd.R_below (Kd.rZ ((Kd.R_mono (Kd.R_far (p := ⟨gb362, 1, none⟩) (Kd.R_far (p := ⟨gb362, 0, none⟩) (Kd.R_types HO348.out BK362.out (by decide)) (fun _ hk => hk.2) (.slice Ao30 t356.length co30)) (fun _ hk => hk.2) (.slice Ao33 t359.length co33)) (fun _ h_ => h_.1)))) hb); have n2_ := Aside0.mk (Kd.R_elder' (Kd.rZ ((Kd.R_mono (Kd.R_far (p := ⟨gb362, 1, none⟩) (Kd.R_far (p := ⟨gb362, 0, none⟩) (Kd.R_types HO351.out BK362.out (by decide)) (fun _ hk => hk.2) (.slice Ao30 t356.length co30)) (fun _ hk => hk.2) (.slice Ao33 t359.length co33)) (fun _ h_ => h_.1)))) (Kd.R_base ho0) hb); have n3_ := Aside0.mk (Kd.R_below (Kd.rZ ((Kd.R_mono (Kd.R_far (p := ⟨gb362, 1, none⟩) (Kd.R_far (p := ⟨gb362, 0, none⟩) (Kd.R_types HO354.out BK362.out (by decide)) (fun _ hk => hk.2) (.slice Ao30 t356.length co30)) (fun _ hk => hk.2) (.slice Ao33 t359.length co33)) (fun _ h_ => h_.1)))) hb); have n4_ := Aside0.mk (Kd.R_elder' (Kd.rZ ((Kd.R_mono (Kd.R_far (p := ⟨gb362, 1, none⟩) (Kd.R_far (p := ⟨gb362, 0, none⟩) (Kd.R_types HO358.out BK362.out (by decide)) (fun _ hk => hk.2) (.slice Ao30 t356.length co30)) (fun _ hk => hk.2) (.slice Ao33 t359.length co33)) (fun _ h_ => h_.1)))) (Kd.R_base ho0) hb); have n5_ := Aside0.mk (Kd.R_below (Kd.rZ ((Kd.R_mono (Kd.R_far (p := ⟨gb362, 1, none⟩) (Kd.R_far (p := ⟨gb362, 0, none⟩) (Kd.R_types HO361.out BK362.out (by decide)) (fun _ hk => hk.2) (.slice Ao30 t356.length co30)) (fun _ hk => hk.2) (.slice Ao33 t359.length co33)) (fun _ h_ => h_.1)))) hb); have n6_ := Aside0.mk (Kd.R_lower (Kd.R_new' (Kd.R_new' (Kd.R_new' ho0 (Kd.R_lt (Kd.rZ ((Kd.R_mono (Kd.R_far (p := ⟨gb362, 1, none⟩) (Kd.R_far (p := ⟨gb362, 0, none⟩) (Kd.R_types HO345.out BK362.out (by decide)) (fun _ hk => hk.2) (.slice Ao30 t356.length co30)) (fun _ hk => hk.2) (.slice Ao33 t359.length co33)) (fun _ h_ => h_.1)))))) (Kd.R_lt (Kd.rZ ((Kd.R_mono (Kd.R_far (p := ⟨gb362, 1, none⟩) (Kd.R_far (p := ⟨gb362, 0, none⟩) (Kd.R_types HO351.out BK362.out (by decide)) (fun _ hk => hk.2) (.slice Ao30 t356.length co30)) (fun _ hk => hk.2) (.slice Ao33 t359.length co33)) (fun _ h_ => h_.1)))))) (Kd.R_lt (Kd.rZ ((Kd.R_mono (Kd.R_far (p := ⟨gb362, 1, none⟩) (Kd.R_far (p := ⟨gb362, 0, none⟩) (Kd.R_types HO358.out BK362.out (by decide)) (fun _ hk => hk.2) (.slice Ao30 t356.length co30)) (fun _ hk => hk.2) (.slice Ao33 t359.length co33)) (fun _ h_ => h_.1)))))) bsZ); have n7_ := Aside0.mk (blk_below (g := gb341) (o := .cells #[.slice A0_0 l0_0.length c0_0, .slice A0_1 l0_1.length c0_1] 25 (0, 0)) (by (with_reducible repeat (first | refine blk_drewN ?_ _ | refine blk_drew ?_ | refine blk_alloc ?_ _)); refine blk_far ?_ NB341_362.out _; (with_reducible repeat (first | refine blk_drewN ?_ _ | refine blk_drew ?_ | refine blk_alloc ?_ _)); refine blk_far ?_ NB341_362.out _; (with_reducible repeat (first | refine blk_drewN ?_ _ | refine blk_drew ?_ | refine blk_alloc ?_ _)); exact BK341.out) hb); have n8_ := Aside0.mk (blk_below (g := gb362) (o := .cells #[.slice Ao30 t356.length co30, .slice Ao33 t359.length co33] 32 (0, 0)) (by (with_reducible repeat (first | refine blk_drewN ?_ _ | refine blk_drew ?_ | refine blk_alloc ?_ _)); refine blk_put (cs := #[.slice Ao30 t356.length co30, .slice none 0 0]) ?_ 1 _ rfl; (with_reducible repeat (first | refine blk_drewN ?_ _ | refine blk_drew ?_ | refine blk_alloc ?_ _)); refine blk_put (cs := #[.slice none 0 0, .slice none 0 0]) ?_ 0 _ rfl; (with_reducible repeat (first | refine blk_drewN ?_ _ | refine blk_drew ?_ | refine blk_alloc ?_ _)); exact BK362.out) hb); have n9_ := Aside0.mk (below_step bZ hb); clear HO345; clear HO348; clear HO351; clear HO354; clear HO358; clear HO361; clear BK341; clear BK362; clear HB; have HO345 := n0_; have HO348 := n1_; have HO351 := n2_; have HO354 := n3_; have HO358 := n4_; have HO361 := n5_; have HO365 := n6_; have BK341 := n7_; have BK362 := n8_; have HB := n9_; clear n0_ n1_ n2_ n3_ n4_ n5_ n6_ n7_ n8_ n9_; (try clear hb); (try clear hb2); (try clear hk); (try clear hi); (try clear ho0); have hcz35_0 := bc0 BK362.out; have hcz35_1 := bc1 BK362.out; have hfz35_0 := blk_frozen BK362.out 0; have hfz35_1 := blk_frozen BK362.out 1; obtain ⟨Ao36, co36, eo36⟩ := Kd.R_slice HO365.out; subst eo36) | ((with_reducible refine gate_callee (f := 10) rfl ?_); refine goesL_ (some 40) rfl rfl Tryz.func10 (by kernel_rfl) rfl #[.agg #[.slice Ao30 t356.length co30, .slice Ao33 t359.length co33], .slice Ao36 t363.length co36] rfl gZ ?_; (with_reducible refine (impl_NodeReport.calls k _ _ t356 _ _ t359 _ _ t363 t366 t369 _ ?side1 ?side2 ?side3 ?side4 ?side5 ?side6 ?side7 A15.out).mono ?_); (case side1 => exact Kd.cZ HO358.out); (case side2 => exact (Kd.R_reads' HO358.out).2.1); (case side3 => exact Kd.cZ HO361.out); (case side4 => exact (Kd.R_reads' HO361.out).2.1); (case side5 => exact Kd.cZ HO365.out); (case side6 => exact (Kd.R_reads' HO365.out).2.1); (case side7 => exact HSH.out.below (show Below w.heap.size w _ from bZ)); rintro e w37 ⟨v367, rfl, ho0, hb⟩; refine ⟨_, rfl, ?_⟩; have n0_ := Aside0.mk (Kd.R_below (Kd.rZ HO345.out) hb); have n1_ := Aside0.mk (Kd.R_below (Kd.rZ HO348.out) hb); have n2_ := Aside0.mk (Kd.R_below (Kd.rZ HO351.out) hb); have n3_ := Aside0.mk (Kd.R_elder' (Kd.rZ HO354.out) (Kd.R_base ho0) hb); have n4_ := Aside0.mk (Kd.R_below (Kd.rZ HO358.out) hb); have n5_ := Aside0.mk (Kd.R_below (Kd.rZ HO361.out) hb); have n6_ := Aside0.mk (Kd.R_below (Kd.rZ HO365.out) hb); have n7_ := Aside0.mk (Kd.R_lower (Kd.R_new' ho0 (Kd.R_lt (Kd.rZ HO354.out))) bsZ); have n8_ := Aside0.mk (blk_below (g := gb341) (o := .cells #[.slice A0_0 l0_0.length c0_0, .slice A0_1 l0_1.length c0_1] 25 (0, 0)) (kZ BK341.out) hb); have n9_ := Aside0.mk (blk_below (g := gb362) (o := .cells #[.slice Ao30 t356.length co30, .slice Ao33 t359.length co33] 32 (0, 0)) (kZ BK362.out) hb); have n10_ := Aside0.mk (below_step bZ hb); clear HO345; clear HO348; clear HO351; clear HO354; clear HO358; clear HO361; clear HO365; clear BK341; clear BK362; clear HB; have HO345 := n0_; have HO348 := n1_; have HO351 := n2_; have HO354 := n3_; have HO358 := n4_; have HO361 := n5_; have HO365 := n6_; have HO368 := n7_; have BK341 := n8_; have BK362 := n9_; have HB := n10_; clear n0_ n1_ n2_ n3_ n4_ n5_ n6_ n7_ n8_ n9_ n10_; (try clear hb); (try clear hb2); (try clear hk); (try clear hi); (try clear ho0)))
   (try simp only [Act.put, List.setIfInBounds_toArray, List.set_cons_zero, List.set_cons_succ])
   go_cut [51] (fun v51 wc => ∃ (kq : Nat) (x51_15 : Bool), v51 = .bool x51_15 ∧ Aside0 (laws_FnExactNodeReport.j0 kq l1 t352 t355 t363 t366 t369 x51_15 l0_0 l0_1 t356 t359 = some r) ∧ Aside0 (kq ≤ k) ∧ Aside0 (Kd.R Kd.string 9 wc w.heap.size (fun k_ => some k_ ≠ (v367 : Value).ownBlock) v353 t352) ∧ Aside0 (Kd.R (Kd.int .i64) 2 wc w.heap.size (fun k_ => some k_ ≠ ((.slice Ao30 t356.length co30) : Value).ownBlock) (.slice Ao36 t363.length co36) t363) ∧ Aside0 (Kd.R Kd.string 9 wc w.heap.size (fun k_ => some k_ ≠ (v353 : Value).ownBlock) v367 t366) ∧ Aside0 (Kd.R (Kd.int .i64) 2 wc w.heap.size (fun k_ => some k_ ≠ ((.slice Ao36 t363.length co36) : Value).ownBlock) (.slice Ao30 t356.length co30) t356) ∧ Aside0 (Kd.R k58 58 wc w.heap.size (fun _ => True) (.slice Ao33 t359.length co33) t359) ∧ Aside0 (wc.heap[gb341]? = some (.cells #[(.slice A0_0 l0_0.length c0_0), (.slice A0_1 l0_1.length c0_1)] 25 (0, 0))) ∧ Aside0 (wc.heap[gb362]? = some (.cells #[(.slice Ao30 t356.length co30), (.slice Ao33 t359.length co33)] 32 (0, 0))) ∧ Aside0 (Below w.heap.size w wc))
   case first =>
    have H := HC16.out
    clear HC16
    replace H := Option.bind_eq_some_iff.mp H
    obtain ⟨t370, A380, H⟩ := H
    replace H : (if t370 = true then (laws_FnExactNodeReport.j0 k l1 t352 t355 t363 t366 t369 (t369 != t355) l0_0 l0_1 t356 t359) else (laws_FnExactNodeReport.j0 k l1 t352 t355 t363 t366 t369 true l0_0 l0_1 t356 t359)) = some r := H
    have A38 := Aside0.mk A380
    clear A380
    by_cases c39 : t370 = true
    ·subst c39
     have H1 : (laws_FnExactNodeReport.j0 k l1 t352 t355 t363 t366 t369 (t369 != t355) l0_0 l0_1 t356 t359) = some r := by rw [if_pos rfl] at H; exact H
     clear H
     have H := H1
     clear H1
     have H' := Aside0.mk H
     clear H
     obtain ⟨Ao40, co40, eo40⟩ := Kd.R_slice HO368.out
     subst eo40
     obtain ⟨Ao41, co41, eo41⟩ := Kd.R_slice HO354.out
     subst eo41
     go_wp2_with (first | ((with_reducible refine gate_callee (f := 11) rfl ?_); refine goesL_ (some 45) rfl rfl Tryz.func11 (by kernel_rfl) rfl #[.slice Ao40 t366.length co40, .slice Ao41 t352.length co41] rfl gZ ?_; (with_reducible refine (laws_eqStringS.calls k _ _ t366 _ _ t352 true _ ?side1 ?side2 ?side3 ?side4 A38.out).mono ?_); (case side1 => exact Kd.cZ HO368.out); (case side2 => exact (Kd.R_reads' HO368.out).2.1); (case side3 => exact Kd.cZ HO354.out); (case side4 => exact (Kd.R_reads' HO354.out).2.1); rintro e w' ⟨rfl, ⟨nd, rfl⟩⟩; refine ⟨_, rfl, ?_⟩))
     go_meet
     case rel => exact ⟨_, ((t369 != t355)), sZ, H', ⟨by first | omega | exact Nat.le_refl _⟩, ⟨Kd.rZ (Kd.R_mono HO354.out (fun _ hk => hk.2))⟩, ⟨Kd.rZ (Kd.R_mono HO365.out (fun _ hk => hk.2))⟩, ⟨Kd.rZ (Kd.R_mono HO368.out (fun _ hk => hk.2))⟩, ⟨Kd.rZ (Kd.R_mono HO358.out (fun _ hk => hk.2))⟩, ⟨Kd.rZ (Kd.R_mono HO361.out (fun _ hk => trivial))⟩, ⟨kZ BK341.out⟩, ⟨kZ BK362.out⟩, ⟨bZ⟩⟩
    ·replace c39 := Bool.eq_false_iff.mpr c39
     subst c39
     have H1 : (laws_FnExactNodeReport.j0 k l1 t352 t355 t363 t366 t369 true l0_0 l0_1 t356 t359) = some r := by rw [if_neg (show ¬ (false = true) by decide)] at H; exact H
     clear H
     have H := H1
     clear H1
     have H' := Aside0.mk H
     clear H
     obtain ⟨Ao42, co42, eo42⟩ := Kd.R_slice HO368.out
     subst eo42
     obtain ⟨Ao43, co43, eo43⟩ := Kd.R_slice HO354.out
     subst eo43
     go_wp2_with (first | ((with_reducible refine gate_callee (f := 11) rfl ?_); refine goesL_ (some 45) rfl rfl Tryz.func11 (by kernel_rfl) rfl #[.slice Ao42 t366.length co42, .slice Ao43 t352.length co43] rfl gZ ?_; (with_reducible refine (laws_eqStringS.calls k _ _ t366 _ _ t352 false _ ?side1 ?side2 ?side3 ?side4 A38.out).mono ?_); (case side1 => exact Kd.cZ HO368.out); (case side2 => exact (Kd.R_reads' HO368.out).2.1); (case side3 => exact Kd.cZ HO354.out); (case side4 => exact (Kd.R_reads' HO354.out).2.1); rintro e w' ⟨rfl, ⟨nd, rfl⟩⟩; refine ⟨_, rfl, ?_⟩))
     go_meet
     case rel => exact ⟨_, (true), sZ, H', ⟨by first | omega | exact Nat.le_refl _⟩, ⟨Kd.rZ (Kd.R_mono HO354.out (fun _ hk => hk.2))⟩, ⟨Kd.rZ (Kd.R_mono HO365.out (fun _ hk => hk.2))⟩, ⟨Kd.rZ (Kd.R_mono HO368.out (fun _ hk => hk.2))⟩, ⟨Kd.rZ (Kd.R_mono HO358.out (fun _ hk => hk.2))⟩, ⟨Kd.rZ (Kd.R_mono HO361.out (fun _ hk => trivial))⟩, ⟨kZ BK341.out⟩, ⟨kZ BK362.out⟩, ⟨bZ⟩⟩
   case rest =>
    clear HC16; (try clear c1); (try clear p2); (try clear c3); (try clear c3b0); (try clear c3b1); (try clear c6); (try clear c6b0); (try clear c7); (try clear c8); (try clear c9); (try clear c10); (try clear c11); (try clear c31); (try clear c39); (try clear hcz18_0); (try clear hcz18_1); (try clear hcz20_0); (try clear hcz20_1); (try clear hcz27_0); (try clear hcz27_1); (try clear hcz32_0); (try clear hcz32_1); (try clear hcz35_0); (try clear hcz35_1); (try clear hcz8_0); (try clear hcz8_1); (try clear hfz18_0); (try clear hfz18_1); (try clear hfz20_0); (try clear hfz20_1); (try clear hfz27_0); (try clear hfz27_1); (try clear hfz32_0); (try clear hfz32_1); (try clear hfz35_0); (try clear hfz35_1); (try clear hfz8_0); (try clear hfz8_1)
    obtain ⟨kq, x51_15, rfl, HA, HJ15, HO_6, HO_9, HO_10, HO_363000, HO_363001, BK341, BK362, HB⟩ := hcut
    cases kq with
    | zero => exact absurd HA.out (by simp [laws_FnExactNodeReport.j0])
    | succ kj15 =>
     have H := HA.out
     clear HA
     simp only [laws_FnExactNodeReport.j0] at H
     by_cases c44 : x51_15 = true
     ·subst c44
      have H1 : (some false) = some r := by rw [if_pos rfl] at H; exact H
      clear H
      have H := H1
      clear H1
      obtain rfl := Option.some.inj H
      go_wp2
      go_ret
      exact ⟨eZ, bZ⟩
     ·replace c44 := Bool.eq_false_iff.mpr c44
      subst c44
      have H1 : ((laws_toNetwork.f kj15 l0_0 l0_1).bind fun bt371 => ((laws_eqNetwork.f kj15 t356 t359 bt371.1 bt371.2).bind fun t377 => (if t377 = true then ((laws_toInt64S.f kj15 l1).bind fun t378 => ((laws_eqInt64S.f kj15 t363 t378).bind fun t381 => (if t381 = true then ((laws_markNetwork.f kj15 t356 t359 1).bind fun bt382 => ((laws_markInt64S.f kj15 t363 bt382.1).bind fun bt385 => (if bt385.1 < 0 then (laws_FnExactNodeReport.j1 kj15 l1 t352 t355 t366 true l0_0 l0_1) else ((laws_eqStringS.f kj15 t366 t352).bind fun t387 => (if t387 = true then (laws_FnExactNodeReport.j1 kj15 l1 t352 t355 t366 (t369 != t355) l0_0 l0_1) else (laws_FnExactNodeReport.j1 kj15 l1 t352 t355 t366 true l0_0 l0_1)))))) else (some false)))) else (some false)))) = some r := by rw [if_neg (show ¬ (false = true) by decide)] at H; exact H
      clear H
      have H := H1
      clear H1
      replace H := Option.bind_eq_some_iff.mp H
      obtain ⟨⟨t371, t374⟩, A450, H⟩ := H
      replace H : ((laws_eqNetwork.f kj15 t356 t359 t371 t374).bind fun t377 => (if t377 = true then ((laws_toInt64S.f kj15 l1).bind fun t378 => ((laws_eqInt64S.f kj15 t363 t378).bind fun t381 => (if t381 = true then ((laws_markNetwork.f kj15 t356 t359 1).bind fun bt382 => ((laws_markInt64S.f kj15 t363 bt382.1).bind fun bt385 => (if bt385.1 < 0 then (laws_FnExactNodeReport.j1 kj15 l1 t352 t355 t366 true l0_0 l0_1) else ((laws_eqStringS.f kj15 t366 t352).bind fun t387 => (if t387 = true then (laws_FnExactNodeReport.j1 kj15 l1 t352 t355 t366 (t369 != t355) l0_0 l0_1) else (laws_FnExactNodeReport.j1 kj15 l1 t352 t355 t366 true l0_0 l0_1)))))) else (some false)))) else (some false))) = some r := H
      have A45 := Aside0.mk A450
      clear A450
      replace H := Option.bind_eq_some_iff.mp H
      obtain ⟨t377, A460, H⟩ := H
      replace H : (if t377 = true then ((laws_toInt64S.f kj15 l1).bind fun t378 => ((laws_eqInt64S.f kj15 t363 t378).bind fun t381 => (if t381 = true then ((laws_markNetwork.f kj15 t356 t359 1).bind fun bt382 => ((laws_markInt64S.f kj15 t363 bt382.1).bind fun bt385 => (if bt385.1 < 0 then (laws_FnExactNodeReport.j1 kj15 l1 t352 t355 t366 true l0_0 l0_1) else ((laws_eqStringS.f kj15 t366 t352).bind fun t387 => (if t387 = true then (laws_FnExactNodeReport.j1 kj15 l1 t352 t355 t366 (t369 != t355) l0_0 l0_1) else (laws_FnExactNodeReport.j1 kj15 l1 t352 t355 t366 true l0_0 l0_1)))))) else (some false)))) else (some false)) = some r := H
      have A46 := Aside0.mk A460
      clear A460
      by_cases c47 : t377 = true
      ·subst c47
       have H1 : ((laws_toInt64S.f kj15 l1).bind fun t378 => ((laws_eqInt64S.f kj15 t363 t378).bind fun t381 => (if t381 = true then ((laws_markNetwork.f kj15 t356 t359 1).bind fun bt382 => ((laws_markInt64S.f kj15 t363 bt382.1).bind fun bt385 => (if bt385.1 < 0 then (laws_FnExactNodeReport.j1 kj15 l1 t352 t355 t366 true l0_0 l0_1) else ((laws_eqStringS.f kj15 t366 t352).bind fun t387 => (if t387 = true then (laws_FnExactNodeReport.j1 kj15 l1 t352 t355 t366 (t369 != t355) l0_0 l0_1) else (laws_FnExactNodeReport.j1 kj15 l1 t352 t355 t366 true l0_0 l0_1)))))) else (some false)))) = some r := by rw [if_pos rfl] at H; exact H
       clear H
       have H := H1
       clear H1
       replace H := Option.bind_eq_some_iff.mp H
       obtain ⟨t378, A480, H⟩ := H
       replace H : ((laws_eqInt64S.f kj15 t363 t378).bind fun t381 => (if t381 = true then ((laws_markNetwork.f kj15 t356 t359 1).bind fun bt382 => ((laws_markInt64S.f kj15 t363 bt382.1).bind fun bt385 => (if bt385.1 < 0 then (laws_FnExactNodeReport.j1 kj15 l1 t352 t355 t366 true l0_0 l0_1) else ((laws_eqStringS.f kj15 t366 t352).bind fun t387 => (if t387 = true then (laws_FnExactNodeReport.j1 kj15 l1 t352 t355 t366 (t369 != t355) l0_0 l0_1) else (laws_FnExactNodeReport.j1 kj15 l1 t352 t355 t366 true l0_0 l0_1)))))) else (some false))) = some r := H
       have A48 := Aside0.mk A480
       clear A480
       replace H := Option.bind_eq_some_iff.mp H
       obtain ⟨t381, A490, H⟩ := H
       replace H : (if t381 = true then ((laws_markNetwork.f kj15 t356 t359 1).bind fun bt382 => ((laws_markInt64S.f kj15 t363 bt382.1).bind fun bt385 => (if bt385.1 < 0 then (laws_FnExactNodeReport.j1 kj15 l1 t352 t355 t366 true l0_0 l0_1) else ((laws_eqStringS.f kj15 t366 t352).bind fun t387 => (if t387 = true then (laws_FnExactNodeReport.j1 kj15 l1 t352 t355 t366 (t369 != t355) l0_0 l0_1) else (laws_FnExactNodeReport.j1 kj15 l1 t352 t355 t366 true l0_0 l0_1)))))) else (some false)) = some r := H
       have A49 := Aside0.mk A490
       clear A490
       by_cases c50 : t381 = true
       ·subst c50
        have H1 : ((laws_markNetwork.f kj15 t356 t359 1).bind fun bt382 => ((laws_markInt64S.f kj15 t363 bt382.1).bind fun bt385 => (if bt385.1 < 0 then (laws_FnExactNodeReport.j1 kj15 l1 t352 t355 t366 true l0_0 l0_1) else ((laws_eqStringS.f kj15 t366 t352).bind fun t387 => (if t387 = true then (laws_FnExactNodeReport.j1 kj15 l1 t352 t355 t366 (t369 != t355) l0_0 l0_1) else (laws_FnExactNodeReport.j1 kj15 l1 t352 t355 t366 true l0_0 l0_1)))))) = some r := by rw [if_pos rfl] at H; exact H
        clear H
        have H := H1
        clear H1
        replace H := Option.bind_eq_some_iff.mp H
        obtain ⟨⟨t382, t383, t384⟩, A510, H⟩ := H
        replace H : ((laws_markInt64S.f kj15 t363 t382).bind fun bt385 => (if bt385.1 < 0 then (laws_FnExactNodeReport.j1 kj15 l1 t352 t355 t366 true l0_0 l0_1) else ((laws_eqStringS.f kj15 t366 t352).bind fun t387 => (if t387 = true then (laws_FnExactNodeReport.j1 kj15 l1 t352 t355 t366 (t369 != t355) l0_0 l0_1) else (laws_FnExactNodeReport.j1 kj15 l1 t352 t355 t366 true l0_0 l0_1))))) = some r := H
        have A51 := Aside0.mk A510
        clear A510
        replace H := Option.bind_eq_some_iff.mp H
        obtain ⟨⟨t385, t386⟩, A520, H⟩ := H
        replace H : (if t385 < 0 then (laws_FnExactNodeReport.j1 kj15 l1 t352 t355 t366 true l0_0 l0_1) else ((laws_eqStringS.f kj15 t366 t352).bind fun t387 => (if t387 = true then (laws_FnExactNodeReport.j1 kj15 l1 t352 t355 t366 (t369 != t355) l0_0 l0_1) else (laws_FnExactNodeReport.j1 kj15 l1 t352 t355 t366 true l0_0 l0_1)))) = some r := H
        have A52 := Aside0.mk A520
        clear A520
        have HC53 := Aside0.mk H
        clear H
        try go_wp2
        have n0_ := Aside0.mk (Kd.R_drew HO_6.out)
        have n1_ := Aside0.mk (Kd.R_drew HO_9.out)
        have n2_ := Aside0.mk (Kd.R_drew HO_10.out)
        have n3_ := Aside0.mk (Kd.R_drew HO_363000.out)
        have n4_ := Aside0.mk (Kd.R_drew HO_363001.out)
        have n5_ := Aside0.mk (blk_drew BK341.out)
        have n6_ := Aside0.mk (blk_drew BK362.out)
        have n7_ := Aside0.mk (below_drew1 HB.out)
        clear HO_6; clear HO_9; clear HO_10; clear HO_363000; clear HO_363001; clear BK341; clear BK362; clear HB
        have HO_6 := n0_
        have HO_9 := n1_
        have HO_10 := n2_
        have HO_363000 := n3_
        have HO_363001 := n4_
        have BK341 := n5_
        have BK362 := n6_
        have HB := n7_
        clear n0_ n1_ n2_ n3_ n4_ n5_ n6_ n7_
        refine start_ (n := 5) (S := fun w' => w'.cell? ⟨gb362, 0, none⟩ = some (.slice Ao30 t356.length co30) ∧ w'.cell? ⟨gb362, 1, none⟩ = some (.slice Ao33 t359.length co33) ∧ w'.cell? ⟨gb341, 0, none⟩ = some (.slice A0_0 l0_0.length c0_0) ∧ w'.cell? ⟨gb341, 1, none⟩ = some (.slice A0_1 l0_1.length c0_1)) (ds := []) #[false, false, false, false, false] (by kernel_rfl) rfl rfl ⟨(blk_cell BK362.out 0).trans rfl, (blk_cell BK362.out 1).trans rfl, (blk_cell BK341.out 0).trans rfl, (blk_cell BK341.out 1).trans rfl⟩ (fun hHeld => ?_)
        generalize wc.drew = w54 at HO_6 HO_9 HO_10 HO_363000 HO_363001 BK341 BK362 HB hHeld ⊢
        refine take_ (i := 0) (N := some 52) (v := ?_) (a' := ?_) #[true, false, false, false, false] rfl rfl (by kernel_rfl) (fun _ _ _ h => h) (Or.inl ⟨by rfl, ?_⟩) hHeld ?_ ?_
        rotate_left
        ·rintro w' ⟨s0, s1, s2, s3⟩
         go_simp
         with_reducible rfl
        rotate_left
        ·simp only [Act.put, List.setIfInBounds_toArray, List.set_cons_zero, List.set_cons_succ, i64_w, i32_w]
         rfl
        refine take_ (i := 1) (N := some 53) (v := ?_) (a' := ?_) #[true, true, false, false, false] rfl rfl (by kernel_rfl) (fun _ _ _ h => h) (Or.inl ⟨by rfl, ?_⟩) hHeld ?_ ?_
        rotate_left
        ·rintro w' ⟨s0, s1, s2, s3⟩
         go_simp
         with_reducible rfl
        rotate_left
        ·simp only [Act.put, List.setIfInBounds_toArray, List.set_cons_zero, List.set_cons_succ, i64_w, i32_w]
         rfl
        refine one_ (i := 2) (N := some 54) #[true, true, true, false, false] rfl rfl (by kernel_rfl) (by decide) (fun K hK => ?_)
        refine goes_ Tryz.func8 (by kernel_rfl) rfl #[.agg #[.slice A0_0 l0_0.length c0_0, .slice A0_1 l0_1.length c0_1]] (by rfl) rfl rfl gZ ?_
        with_reducible refine (laws_toNetwork.calls kj15 _ _ l0_0 _ _ l0_1 t371 t374 _ ?side1 ?side2 ?side3 ?side4 A45.out).mono ?_
        (case side1 => repeat (first | exact (Kd.C_below HR0_0.out HB.out) | (with_reducible refine Kd.C_alloc ?_ _) | (with_reducible refine Kd.C_drewN ?_ _) | (with_reducible refine Kd.C_drew ?_)))
        (case side2 => exact HC0_0.out)
        (case side3 => repeat (first | exact (Kd.C_below HR0_1.out HB.out) | (with_reducible refine Kd.C_alloc ?_ _) | (with_reducible refine Kd.C_drewN ?_ _) | (with_reducible refine Kd.C_drew ?_)))
        (case side4 => exact HC0_1.out)
        rintro e w55 ⟨v372, v375, rfl, ho0, ho1, hb⟩
        refine ⟨_, rfl, ?_⟩
        have n0_ := Aside0.mk (Kd.R_below (Kd.rZ HO_6.out) hb)
        have n1_ := Aside0.mk (Kd.R_elder' (Kd.rZ HO_9.out) (Kd.R_base ho0) hb)
        have n2_ := Aside0.mk (Kd.R_below (Kd.rZ HO_10.out) hb)
        have n3_ := Aside0.mk (Kd.R_elder' (Kd.rZ HO_363000.out) (Kd.R_base ho0) hb)
        have n4_ := Aside0.mk (Kd.R_elder' (Kd.rZ HO_363001.out) (Kd.R_base ho1) hb)
        have n5_ := Aside0.mk (Kd.R_lower (Kd.R_new' (Kd.R_new' ho0 (Kd.R_lt (Kd.rZ HO_9.out))) (Kd.R_lt (Kd.rZ HO_363000.out))) bsZ)
        have n6_ := Aside0.mk (Kd.R_lower (Kd.R_new' ho1 (Kd.R_lt (Kd.rZ HO_363001.out))) bsZ)
        have n7_ := Aside0.mk (blk_below (g := gb341) (o := .cells #[.slice A0_0 l0_0.length c0_0, .slice A0_1 l0_1.length c0_1] 25 (0, 0)) (kZ BK341.out) hb)
        have n8_ := Aside0.mk (blk_below (g := gb362) (o := .cells #[.slice Ao30 t356.length co30, .slice Ao33 t359.length co33] 32 (0, 0)) (kZ BK362.out) hb)
        have n9_ := Aside0.mk (below_step bZ hb)
        clear HO_6; clear HO_9; clear HO_10; clear HO_363000; clear HO_363001; clear BK341; clear BK362; clear HB
        have HO_6 := n0_
        have HO_9 := n1_
        have HO_10 := n2_
        have HO_363000 := n3_
        have HO_363001 := n4_
        have HO373 := n5_
        have HO376 := n6_
        have BK341 := n7_
        have BK362 := n8_
        have HB := n9_
        clear n0_ n1_ n2_ n3_ n4_ n5_ n6_ n7_ n8_ n9_
        (try clear hb)
        (try clear hb2)
        (try clear hk)
        (try clear hi)
        (try clear ho0)
        (try clear ho1)
        obtain ⟨Ao56, co56, eo56⟩ := Kd.R_slice HO373.out
        (first | subst eo56 | (injection eo56 with f1_ f2_ f3_; have f4_ := f1_.symm; have f5_ := f3_.symm; clear f1_ f2_ f3_; subst f4_; subst f5_))
        obtain ⟨Ao57, co57, eo57⟩ := Kd.R_slice HO376.out
        (first | subst eo57 | (injection eo57 with f1_ f2_ f3_; have f4_ := f1_.symm; have f5_ := f3_.symm; clear f1_ f2_ f3_; subst f4_; subst f5_))
        refine hK.out _ _ ⟨(blk_cell BK362.out 0).trans rfl, (blk_cell BK362.out 1).trans rfl, (blk_cell BK341.out 0).trans rfl, (blk_cell BK341.out 1).trans rfl⟩ (fun hHeld => ?_)
        clear hK K
        refine norm_ (a' := ?_) ?_ ?_
        rotate_left
        ·show Act.put _ (some 54) _ = _
         simp only [Act.put, List.setIfInBounds_toArray, List.set_cons_zero, List.set_cons_succ, i64_w, i32_w]
         rfl
        refine one_ (i := 3) (N := some 55) #[true, true, true, true, false] rfl rfl (by kernel_rfl) (by decide) (fun K hK => ?_)
        refine goes_ Tryz.func12 (by kernel_rfl) rfl #[.agg #[.slice Ao30 t356.length co30, .slice Ao33 t359.length co33], .agg #[.slice Ao56 t371.length co56, .slice Ao57 t374.length co57]] (by rfl) rfl rfl gZ ?_
        with_reducible refine (laws_eqNetwork.calls kj15 _ _ t356 _ _ t359 _ _ t371 _ _ t374 true _ ?side1 ?side2 ?side3 ?side4 ?side5 ?side6 ?side7 ?side8 A46.out).mono ?_
        (case side1 => exact Kd.cZ HO_363000.out)
        (case side2 => exact (Kd.R_reads' HO_363000.out).2.1)
        (case side3 => exact Kd.cZ HO_363001.out)
        (case side4 => exact (Kd.R_reads' HO_363001.out).2.1)
        (case side5 => exact Kd.cZ HO373.out)
        (case side6 => exact (Kd.R_reads' HO373.out).2.1)
        (case side7 => exact Kd.cZ HO376.out)
        (case side8 => exact (Kd.R_reads' HO376.out).2.1)
        rintro e w58 ⟨rfl, hb⟩
        refine ⟨_, rfl, ?_⟩
        have n0_ := Aside0.mk (Kd.R_below (Kd.rZ HO_6.out) hb)
        have n1_ := Aside0.mk (Kd.R_below (Kd.rZ HO_9.out) hb)
        have n2_ := Aside0.mk (Kd.R_below (Kd.rZ HO_10.out) hb)
        have n3_ := Aside0.mk (Kd.R_below (Kd.rZ HO_363000.out) hb)
        have n4_ := Aside0.mk (Kd.R_below (Kd.rZ HO_363001.out) hb)
        have n5_ := Aside0.mk (Kd.R_below (Kd.rZ HO373.out) hb)
        have n6_ := Aside0.mk (Kd.R_below (Kd.rZ HO376.out) hb)
        have n7_ := Aside0.mk (blk_below (g := gb341) (o := .cells #[.slice A0_0 l0_0.length c0_0, .slice A0_1 l0_1.length c0_1] 25 (0, 0)) (kZ BK341.out) hb)
        have n8_ := Aside0.mk (blk_below (g := gb362) (o := .cells #[.slice Ao30 t356.length co30, .slice Ao33 t359.length co33] 32 (0, 0)) (kZ BK362.out) hb)
        have n9_ := Aside0.mk (below_step bZ hb)
        clear HO_6; clear HO_9; clear HO_10; clear HO_363000; clear HO_363001; clear HO373; clear HO376; clear BK341; clear BK362; clear HB
        have HO_6 := n0_
        have HO_9 := n1_
        have HO_10 := n2_
        have HO_363000 := n3_
        have HO_363001 := n4_
        have HO373 := n5_
        have HO376 := n6_
        have BK341 := n7_
        have BK362 := n8_
        have HB := n9_
        clear n0_ n1_ n2_ n3_ n4_ n5_ n6_ n7_ n8_ n9_
        (try clear hb)
        (try clear hb2)
        (try clear hk)
        (try clear hi)
        refine hK.out _ _ ⟨(blk_cell BK362.out 0).trans rfl, (blk_cell BK362.out 1).trans rfl, (blk_cell BK341.out 0).trans rfl, (blk_cell BK341.out 1).trans rfl⟩ (fun hHeld => ?_)
        clear hK K
        refine norm_ (a' := ?_) ?_ ?_
        rotate_left
        ·show Act.put _ (some 55) _ = _
         simp only [Act.put, List.setIfInBounds_toArray, List.set_cons_zero, List.set_cons_succ, i64_w, i32_w]
         rfl
        refine puY 4 (some 56) #[true, true, true, true, true] rfl rfl ?_
        refine done_ (by kernel_rfl) ?_
        go_upto_region 20 with (first | ((with_reducible refine gate_callee (f := 9) rfl ?_); refine goesL_ (some 59) rfl rfl Tryz.func9 (by kernel_rfl) rfl #[.slice A1 l1.length c1] rfl gZ ?_; (with_reducible refine (laws_toInt64S.calls kj15 _ _ l1 t378 _ ?side1 ?side2 A48.out).mono ?_); (case side1 => repeat (first | exact (Kd.C_below HR1.out HB.out) | (with_reducible refine Kd.C_alloc ?_ _) | (with_reducible refine Kd.C_drewN ?_ _) | (with_reducible refine Kd.C_drew ?_))); (case side2 => exact HC1.out); rintro e w59 ⟨v379, rfl, ho0, hb⟩; refine ⟨_, rfl, ?_⟩; have n0_ := Aside0.mk (Kd.R_below (Kd.rZ HO_6.out) hb); have n1_ := Aside0.mk (Kd.R_elder' (Kd.rZ HO_9.out) (Kd.R_base ho0) hb); have n2_ := Aside0.mk (Kd.R_below (Kd.rZ HO_10.out) hb); have n3_ := Aside0.mk (Kd.R_elder' (Kd.rZ HO_363000.out) (Kd.R_base ho0) hb); have n4_ := Aside0.mk (Kd.R_below (Kd.rZ HO_363001.out) hb); have n5_ := Aside0.mk (Kd.R_elder' (Kd.rZ HO373.out) (Kd.R_base ho0) hb); have n6_ := Aside0.mk (Kd.R_below (Kd.rZ HO376.out) hb); have n7_ := Aside0.mk (Kd.R_lower (Kd.R_new' (Kd.R_new' (Kd.R_new' ho0 (Kd.R_lt (Kd.rZ HO_9.out))) (Kd.R_lt (Kd.rZ HO_363000.out))) (Kd.R_lt (Kd.rZ HO373.out))) bsZ); have n8_ := Aside0.mk (blk_below (g := gb341) (o := .cells #[.slice A0_0 l0_0.length c0_0, .slice A0_1 l0_1.length c0_1] 25 (0, 0)) (kZ BK341.out) hb); have n9_ := Aside0.mk (blk_below (g := gb362) (o := .cells #[.slice Ao30 t356.length co30, .slice Ao33 t359.length co33] 32 (0, 0)) (kZ BK362.out) hb); have n10_ := Aside0.mk (below_step bZ hb); clear HO_6; clear HO_9; clear HO_10; clear HO_363000; clear HO_363001; clear HO373; clear HO376; clear BK341; clear BK362; clear HB; have HO_6 := n0_; have HO_9 := n1_; have HO_10 := n2_; have HO_363000 := n3_; have HO_363001 := n4_; have HO373 := n5_; have HO376 := n6_; have HO380 := n7_; have BK341 := n8_; have BK362 := n9_; have HB := n10_; clear n0_ n1_ n2_ n3_ n4_ n5_ n6_ n7_ n8_ n9_ n10_; (try clear hb); (try clear hb2); (try clear hk); (try clear hi); (try clear ho0); obtain ⟨Ao60, co60, eo60⟩ := Kd.R_slice HO380.out; subst eo60) | ((with_reducible refine gate_callee (f := 13) rfl ?_); refine goesL_ (some 60) rfl rfl Tryz.func13 (by kernel_rfl) rfl #[.slice Ao36 t363.length co36, .slice Ao60 t378.length co60] rfl gZ ?_; (with_reducible refine (laws_eqInt64S.calls kj15 _ _ t363 _ _ t378 true _ ?side1 ?side2 ?side3 ?side4 A49.out).mono ?_); (case side1 => exact Kd.cZ HO_9.out); (case side2 => exact (Kd.R_reads' HO_9.out).2.1); (case side3 => exact Kd.cZ HO380.out); (case side4 => exact (Kd.R_reads' HO380.out).2.1); rintro e w' ⟨rfl, ⟨nd, rfl⟩⟩; refine ⟨_, rfl, ?_⟩; have hnb61 := NB362_341.out; have hnc61 := NB341_362.out; have hcz62_0 := bc0 BK362.out; have hcz62_1 := bc1 BK362.out; have hfz62_0 := blk_frozen BK362.out 0; have hfz62_1 := blk_frozen BK362.out 1) | ((with_reducible refine gate_callee (f := 14) rfl ?_); refine goesL_ (some 64) rfl rfl Tryz.func14 (by kernel_rfl) rfl #[.agg #[.slice Ao30 t356.length co30, .slice Ao33 t359.length co33], .int .i64 1] rfl gZ ?_; (with_reducible refine (laws_markNetwork.calls kj15 (fun k_ => some k_ = (.slice Ao30 t356.length co30 : Value).ownBlock) (.slice Ao30 t356.length co30) t356 (fun k_ => some k_ = (.slice Ao33 t359.length co33 : Value).ownBlock) (.slice Ao33 t359.length co33) t359 1 t382 t383 t384 w _ ?side1 ?side2 ?side3 A51.out).mono ?_); (case side1 => repeat (first | (with_reducible first | exact HB.out | apply below_alloc | apply pw_below_drewN | apply below_drew1 | refine below_set ?_ GE341.out | refine below_set ?_ GE362.out) | exact HB.out)); (case side2 => exact Kd.R_tight rfl HO_363000.out); (case side3 => exact Kd.R_tight rfl HO_363001.out); rintro e w63 ⟨rfl, hy0, hy1, hb, hkp⟩; refine ⟨_, rfl, ?_⟩; have n0_ := Aside0.mk (Kd.R_mono (ok' := fun k_ => some k_ ≠ (v367 : Value).ownBlock) (Kd.R_keptB ((Kd.R_apart' (Kd.R_apart' HO_6.out (Kd.R_typed HO_363000.out) (by decide)) (Kd.R_typed HO_363001.out) (by decide))) hkp (fun k_ hk_ hs_ => Or.elim hs_ (fun e_ => (hk_.1.2) e_) (fun e_ => (hk_.2) e_))) (fun k_ hk_ => hk_.1.1.1)); have n1_ := Aside0.mk (Kd.R_mono (ok' := fun k_ => some k_ ≠ (.slice Ao30 t356.length co30 : Value).ownBlock ∧ some k_ ≠ (.slice Ao56 t371.length co56 : Value).ownBlock ∧ some k_ ≠ (.slice Ao60 t378.length co60 : Value).ownBlock) (Kd.R_keptB ((Kd.R_apart' HO_9.out (Kd.R_typed HO_363001.out) (by decide))) hkp (fun k_ hk_ hs_ => Or.elim hs_ (fun e_ => (hk_.1.1.1) e_) (fun e_ => (hk_.2) e_))) (fun k_ hk_ => ⟨hk_.1.1.1.1, hk_.1.1.1.2, hk_.1.1.2⟩)); have n2_ := Aside0.mk (Kd.R_mono (ok' := fun k_ => some k_ ≠ (v353 : Value).ownBlock) (Kd.R_keptB ((Kd.R_apart' (Kd.R_apart' HO_10.out (Kd.R_typed HO_363000.out) (by decide)) (Kd.R_typed HO_363001.out) (by decide))) hkp (fun k_ hk_ hs_ => Or.elim hs_ (fun e_ => (hk_.1.2) e_) (fun e_ => (hk_.2) e_))) (fun k_ hk_ => hk_.1.1.1)); have n3_ := Aside0.mk (Kd.R_reok rfl hy0 (fun k_ e_ => HO_363000.out.1 k_ e_)); have n4_ := Aside0.mk (Kd.R_reok rfl hy1 (fun k_ e_ => HO_363001.out.1 k_ e_)); have n5_ := Aside0.mk (blk_kept (kZ BK341.out) hkp (fun hs_ => Or.elim hs_ (fun e_ => (fun e_ => (Kd.R_ne HO_363000.out BK341.out (by decide)) e_) e_) (fun e_ => (fun e_ => (Kd.R_ne HO_363001.out BK341.out (by decide)) e_) e_))); have n6_ := Aside0.mk (blk_kept (kZ BK362.out) hkp (fun hs_ => Or.elim hs_ (fun e_ => (fun e_ => (Kd.R_ne HO_363000.out BK362.out (by decide)) e_) e_) (fun e_ => (fun e_ => (Kd.R_ne HO_363001.out BK362.out (by decide)) e_) e_))); have n7_ := Aside0.mk (Kd.R_mono (ok' := fun k_ => some k_ ≠ (.slice Ao36 t363.length co36 : Value).ownBlock ∧ some k_ ≠ (.slice Ao30 t356.length co30 : Value).ownBlock ∧ some k_ ≠ (.slice Ao60 t378.length co60 : Value).ownBlock) (Kd.R_keptB ((Kd.R_apart' HO373.out (Kd.R_typed HO_363001.out) (by decide))) hkp (fun k_ hk_ hs_ => Or.elim hs_ (fun e_ => (hk_.1.1.2) e_) (fun e_ => (hk_.2) e_))) (fun k_ hk_ => ⟨hk_.1.1.1.1.2, hk_.1.1.1.2, hk_.1.1.2⟩)); have n8_ := Aside0.mk (Kd.R_mono (ok' := fun k_ => some k_ ≠ (.slice Ao33 t359.length co33 : Value).ownBlock) (Kd.R_keptB ((Kd.R_apart' HO376.out (Kd.R_typed HO_363000.out) (by decide))) hkp (fun k_ hk_ hs_ => Or.elim hs_ (fun e_ => (hk_.2) e_) (fun e_ => (hk_.1.2) e_))) (fun k_ hk_ => hk_.1.1.2)); have n9_ := Aside0.mk (Kd.R_mono (ok' := fun k_ => some k_ ≠ (.slice Ao36 t363.length co36 : Value).ownBlock ∧ some k_ ≠ (.slice Ao30 t356.length co30 : Value).ownBlock ∧ some k_ ≠ (.slice Ao56 t371.length co56 : Value).ownBlock) (Kd.R_keptB ((Kd.R_apart' HO380.out (Kd.R_typed HO_363001.out) (by decide))) hkp (fun k_ hk_ hs_ => Or.elim hs_ (fun e_ => (hk_.1.1.2) e_) (fun e_ => (hk_.2) e_))) (fun k_ hk_ => ⟨hk_.1.1.1.1.2, hk_.1.1.1.2, hk_.1.1.2⟩)); have n10_ := Aside0.mk (hb); clear HO_6; clear HO_9; clear HO_10; clear HO_363000; clear HO_363001; clear BK341; clear BK362; clear HO373; clear HO376; clear HO380; clear HB; have HO_6 := n0_; have HO_9 := n1_; have HO_10 := n2_; have HO_363000 := n3_; have HO_363001 := n4_; have BK341 := n5_; have BK362 := n6_; have HO373 := n7_; have HO376 := n8_; have HO380 := n9_; have HB := n10_; clear n0_ n1_ n2_ n3_ n4_ n5_ n6_ n7_ n8_ n9_ n10_; (try clear hb); (try clear hkp); (try clear hy0); (try clear hy1)) | ((with_reducible refine gate_callee (f := 15) rfl ?_); refine goesL_ (some 67) rfl rfl Tryz.func15 (by kernel_rfl) rfl #[.slice Ao36 t363.length co36, .int .i64 t382] rfl gZ ?_; (with_reducible refine (laws_markInt64S.calls kj15 (fun k_ => some k_ = (.slice Ao36 t363.length co36 : Value).ownBlock) (.slice Ao36 t363.length co36) t363 t382 t385 t386 w _ ?side1 ?side2 A52.out).mono ?_); (case side1 => repeat (first | (with_reducible first | exact HB.out | apply below_alloc | apply pw_below_drewN | apply below_drew1 | refine below_set ?_ GE341.out | refine below_set ?_ GE362.out) | exact HB.out)); (case side2 => exact Kd.R_tight rfl HO_9.out); rintro e w64 ⟨rfl, hy0, hb, hkp⟩; refine ⟨_, rfl, ?_⟩; have n0_ := Aside0.mk (Kd.R_mono (ok' := fun k_ => some k_ ≠ (v367 : Value).ownBlock) (Kd.R_keptB ((Kd.R_apart' HO_6.out (Kd.R_typed HO_9.out) (by decide))) hkp (fun k_ hk_ hs_ => (hk_.2) hs_)) (fun k_ hk_ => hk_.1.1)); have n1_ := Aside0.mk (Kd.R_reok rfl hy0 (fun k_ e_ => HO_9.out.1 k_ e_)); have n2_ := Aside0.mk (Kd.R_mono (ok' := fun k_ => some k_ ≠ (v353 : Value).ownBlock) (Kd.R_keptB ((Kd.R_apart' HO_10.out (Kd.R_typed HO_9.out) (by decide))) hkp (fun k_ hk_ hs_ => (hk_.2) hs_)) (fun k_ hk_ => hk_.1.1)); have n3_ := Aside0.mk (Kd.R_mono (ok' := fun k_ => some k_ ≠ (.slice Ao36 t363.length co36 : Value).ownBlock ∧ some k_ ≠ (.slice Ao56 t371.length co56 : Value).ownBlock ∧ some k_ ≠ (.slice Ao60 t378.length co60 : Value).ownBlock) (Kd.R_keptB (HO_363000.out) hkp (fun k_ hk_ hs_ => (hk_.1.1) hs_)) (fun k_ hk_ => ⟨hk_.1.1.1, hk_.1.1.2, hk_.1.2⟩)); have n4_ := Aside0.mk (Kd.R_mono (ok' := fun k_ => some k_ ≠ (.slice Ao57 t374.length co57 : Value).ownBlock) (Kd.R_keptB ((Kd.R_apart' HO_363001.out (Kd.R_typed HO_9.out) (by decide))) hkp (fun k_ hk_ hs_ => (hk_.2) hs_)) (fun k_ hk_ => hk_.1.1.2)); have n5_ := Aside0.mk (blk_kept (kZ BK341.out) hkp (fun hs_ => (fun e_ => (Kd.R_ne HO_9.out BK341.out (by decide)) e_) hs_)); have n6_ := Aside0.mk (blk_kept (kZ BK362.out) hkp (fun hs_ => (fun e_ => (Kd.R_ne HO_9.out BK362.out (by decide)) e_) hs_)); have n7_ := Aside0.mk (Kd.R_mono (ok' := fun k_ => some k_ ≠ (.slice Ao36 t363.length co36 : Value).ownBlock ∧ some k_ ≠ (.slice Ao30 t356.length co30 : Value).ownBlock ∧ some k_ ≠ (.slice Ao60 t378.length co60 : Value).ownBlock) (Kd.R_keptB (HO373.out) hkp (fun k_ hk_ hs_ => (hk_.1) hs_)) (fun k_ hk_ => ⟨hk_.1.1, hk_.1.2.1, hk_.1.2.2⟩)); have n8_ := Aside0.mk (Kd.R_mono (ok' := fun k_ => some k_ ≠ (.slice Ao33 t359.length co33 : Value).ownBlock) (Kd.R_keptB ((Kd.R_apart' HO376.out (Kd.R_typed HO_9.out) (by decide))) hkp (fun k_ hk_ hs_ => (hk_.2) hs_)) (fun k_ hk_ => hk_.1.1)); have n9_ := Aside0.mk (Kd.R_mono (ok' := fun k_ => some k_ ≠ (.slice Ao36 t363.length co36 : Value).ownBlock ∧ some k_ ≠ (.slice Ao30 t356.length co30 : Value).ownBlock ∧ some k_ ≠ (.slice Ao56 t371.length co56 : Value).ownBlock) (Kd.R_keptB (HO380.out) hkp (fun k_ hk_ hs_ => (hk_.1) hs_)) (fun k_ hk_ => ⟨hk_.1.1, hk_.1.2.1, hk_.1.2.2⟩)); have n10_ := Aside0.mk (hb); clear HO_6; clear HO_9; clear HO_10; clear HO_363000; clear HO_363001; clear BK341; clear BK362; clear HO373; clear HO376; clear HO380; clear HB; have HO_6 := n0_; have HO_9 := n1_; have HO_10 := n2_; have HO_363000 := n3_; have HO_363001 := n4_; have BK341 := n5_; have BK362 := n6_; have HO373 := n7_; have HO376 := n8_; have HO380 := n9_; have HB := n10_; clear n0_ n1_ n2_ n3_ n4_ n5_ n6_ n7_ n8_ n9_ n10_; (try clear hb); (try clear hkp); (try clear hy0)))
        (try simp only [Act.put, List.setIfInBounds_toArray, List.set_cons_zero, List.set_cons_succ])
        go_cut [80] (fun v80 wc => ∃ (kq : Nat) (x80_52 : Bool), v80 = .bool x80_52 ∧ Aside0 (laws_FnExactNodeReport.j1 kq l1 t352 t355 t366 x80_52 l0_0 l0_1 = some r) ∧ Aside0 (kq ≤ kj15) ∧ Aside0 (Kd.R Kd.string 9 wc w.heap.size (fun k_ => some k_ ≠ (v367 : Value).ownBlock) v353 t352) ∧ Aside0 (Kd.R Kd.string 9 wc w.heap.size (fun k_ => some k_ ≠ (v353 : Value).ownBlock) v367 t366) ∧ Aside0 (Kd.R (Kd.int .i64) 2 wc w.heap.size (fun _ => True) (.slice Ao30 t356.length co30) t383) ∧ Aside0 (Kd.R k58 58 wc w.heap.size (fun _ => True) (.slice Ao33 t359.length co33) t384) ∧ Aside0 (wc.heap[gb341]? = some (.cells #[(.slice A0_0 l0_0.length c0_0), (.slice A0_1 l0_1.length c0_1)] 25 (0, 0))) ∧ Aside0 (wc.heap[gb362]? = some (.cells #[(.slice Ao30 t356.length co30), (.slice Ao33 t359.length co33)] 32 (0, 0))) ∧ Aside0 (Below w.heap.size w wc))
        case first =>
         have H := HC53.out
         clear HC53
         by_cases c65 : t385 < 0
         ·rw [if_pos c65] at H
          have c65b0 : decide (t385 < 0) = true := decide_eq_true c65
          clear c65
          (first | rw [c65b0] | (simp only [i64_w, i32_w]; rw [c65b0]) | skip)
          have H' := Aside0.mk H
          clear H
          go_wp2
          go_meet
          case rel => exact ⟨_, (true), sZ, H', ⟨by have := HJ15.out; first | omega | exact Nat.le_refl _⟩, ⟨Kd.rZ HO_6.out⟩, ⟨Kd.rZ HO_10.out⟩, ⟨Kd.rZ (Kd.R_mono HO_363000.out (fun _ hk => trivial))⟩, ⟨Kd.rZ (Kd.R_mono HO_363001.out (fun _ hk => trivial))⟩, ⟨kZ BK341.out⟩, ⟨kZ BK362.out⟩, ⟨bZ⟩⟩
         ·rw [if_neg c65] at H
          have c65b0 : decide (t385 < 0) = false := decide_eq_false c65
          clear c65
          (first | rw [c65b0] | (simp only [i64_w, i32_w]; rw [c65b0]) | skip)
          replace H := Option.bind_eq_some_iff.mp H
          obtain ⟨t387, A660, H⟩ := H
          replace H : (if t387 = true then (laws_FnExactNodeReport.j1 kj15 l1 t352 t355 t366 (t369 != t355) l0_0 l0_1) else (laws_FnExactNodeReport.j1 kj15 l1 t352 t355 t366 true l0_0 l0_1)) = some r := H
          have A66 := Aside0.mk A660
          clear A660
          by_cases c67 : t387 = true
          ·subst c67
           have H1 : (laws_FnExactNodeReport.j1 kj15 l1 t352 t355 t366 (t369 != t355) l0_0 l0_1) = some r := by rw [if_pos rfl] at H; exact H
           clear H
           have H := H1
           clear H1
           have H' := Aside0.mk H
           clear H
           obtain ⟨Ao68, co68, eo68⟩ := Kd.R_slice HO_10.out
           subst eo68
           obtain ⟨Ao69, co69, eo69⟩ := Kd.R_slice HO_6.out
           subst eo69
           go_wp2_with (first | (go_at_call 11; (with_reducible refine (laws_eqStringS.calls kj15 _ _ t366 _ _ t352 true _ ?side1 ?side2 ?side3 ?side4 A66.out).mono ?_); (case side1 => exact Kd.cZ HO_10.out); (case side2 => exact (Kd.R_reads' HO_10.out).2.1); (case side3 => exact Kd.cZ HO_6.out); (case side4 => exact (Kd.R_reads' HO_6.out).2.1); rintro e w' ⟨rfl, ⟨nd, rfl⟩⟩))
           go_meet
           case rel => exact ⟨_, ((t369 != t355)), sZ, H', ⟨by have := HJ15.out; first | omega | exact Nat.le_refl _⟩, ⟨Kd.rZ HO_6.out⟩, ⟨Kd.rZ HO_10.out⟩, ⟨Kd.rZ (Kd.R_mono HO_363000.out (fun _ hk => trivial))⟩, ⟨Kd.rZ (Kd.R_mono HO_363001.out (fun _ hk => trivial))⟩, ⟨kZ BK341.out⟩, ⟨kZ BK362.out⟩, ⟨bZ⟩⟩
          ·replace c67 := Bool.eq_false_iff.mpr c67
           subst c67
           have H1 : (laws_FnExactNodeReport.j1 kj15 l1 t352 t355 t366 true l0_0 l0_1) = some r := by rw [if_neg (show ¬ (false = true) by decide)] at H; exact H
           clear H
           have H := H1
           clear H1
           have H' := Aside0.mk H
           clear H
           obtain ⟨Ao70, co70, eo70⟩ := Kd.R_slice HO_10.out
           subst eo70
           obtain ⟨Ao71, co71, eo71⟩ := Kd.R_slice HO_6.out
           subst eo71
           go_wp2_with (first | (go_at_call 11; (with_reducible refine (laws_eqStringS.calls kj15 _ _ t366 _ _ t352 false _ ?side1 ?side2 ?side3 ?side4 A66.out).mono ?_); (case side1 => exact Kd.cZ HO_10.out); (case side2 => exact (Kd.R_reads' HO_10.out).2.1); (case side3 => exact Kd.cZ HO_6.out); (case side4 => exact (Kd.R_reads' HO_6.out).2.1); rintro e w' ⟨rfl, ⟨nd, rfl⟩⟩))
           go_meet
           case rel => exact ⟨_, (true), sZ, H', ⟨by have := HJ15.out; first | omega | exact Nat.le_refl _⟩, ⟨Kd.rZ HO_6.out⟩, ⟨Kd.rZ HO_10.out⟩, ⟨Kd.rZ (Kd.R_mono HO_363000.out (fun _ hk => trivial))⟩, ⟨Kd.rZ (Kd.R_mono HO_363001.out (fun _ hk => trivial))⟩, ⟨kZ BK341.out⟩, ⟨kZ BK362.out⟩, ⟨bZ⟩⟩
        case rest =>
         clear HC53; (try clear c1); (try clear p2); (try clear c3); (try clear c3b0); (try clear c3b1); (try clear c4); (try clear c5); (try clear c6); (try clear c6b0); (try clear c7); (try clear c8); (try clear c9); (try clear c10); (try clear c11); (try clear c12); (try clear c13); (try clear c14); (try clear c15); (try clear c31); (try clear c39); (try clear c44); (try clear c47); (try clear c50); (try clear c61); (try clear c65); (try clear c65b0); (try clear c67); (try clear hcz18_0); (try clear hcz18_1); (try clear hcz20_0); (try clear hcz20_1); (try clear hcz27_0); (try clear hcz27_1); (try clear hcz32_0); (try clear hcz32_1); (try clear hcz35_0); (try clear hcz35_1); (try clear hcz62_0); (try clear hcz62_1); (try clear hcz8_0); (try clear hcz8_1); (try clear hfz18_0); (try clear hfz18_1); (try clear hfz20_0); (try clear hfz20_1); (try clear hfz27_0); (try clear hfz27_1); (try clear hfz32_0); (try clear hfz32_1); (try clear hfz35_0); (try clear hfz35_1); (try clear hfz62_0); (try clear hfz62_1); (try clear hfz8_0); (try clear hfz8_1); (try clear p2)
         obtain ⟨kq, x80_52, rfl, HA, HJ52, HO_6, HO_10, HO_363000, HO_363001, BK341, BK362, HB⟩ := hcut
         have hl363000_52 := (Kd.R_reads' HO_363000.out).1
         rw [hl363000_52] at HO_363000
         (try simp only [hl363000_52])
         (try simp only [hl363000_52] at BK341)
         (try simp only [hl363000_52] at BK362)
         (try simp only [hl363000_52] at HO_6)
         (try simp only [hl363000_52] at HO_10)
         (try simp only [hl363000_52] at HO_363001)
         have hl363001_52 := (Kd.R_reads' HO_363001.out).1
         rw [hl363001_52] at HO_363001
         (try simp only [hl363001_52])
         (try simp only [hl363001_52] at BK341)
         (try simp only [hl363001_52] at BK362)
         (try simp only [hl363001_52] at HO_6)
         (try simp only [hl363001_52] at HO_10)
         (try simp only [hl363001_52] at HO_363000)
         cases kq with
         | zero => exact absurd HA.out (by simp [laws_FnExactNodeReport.j1])
         | succ kj52 =>
          have H := HA.out
          clear HA
          simp only [laws_FnExactNodeReport.j1] at H
          by_cases c72 : x80_52 = true
          ·subst c72
           have H1 : (some false) = some r := by rw [if_pos rfl] at H; exact H
           clear H
           have H := H1
           clear H1
           obtain rfl := Option.some.inj H
           go_wp2
           go_ret
           exact ⟨eZ, bZ⟩
          ·replace c72 := Bool.eq_false_iff.mpr c72
           subst c72
           have H1 : ((laws_markStringS.f kj52 t366 1).bind fun bt388 => ((laws_heldStringS.f kj52 bt388.2 1).bind fun t390 => (if t390 < 0 then (some false) else (if t390 = bt388.1 then ((laws_toNetwork.f kj52 l0_0 l0_1).bind fun bt391 => ((laws_toInt64S.f kj52 l1).bind fun t397 => ((impl_NodeReport.f kj52 bt391.1 bt391.2 t397).bind fun bt400 => ((laws_eqStringS.f kj52 bt400.1 t352).bind fun t404 => (if t404 = true then (laws_FnExactNodeReport.j2 kj52 bt388.2 bt388.1 (bt400.2 != t355)) else (laws_FnExactNodeReport.j2 kj52 bt388.2 bt388.1 true)))))) else (some false))))) = some r := by rw [if_neg (show ¬ (false = true) by decide)] at H; exact H
           clear H
           have H := H1
           clear H1
           replace H := Option.bind_eq_some_iff.mp H
           obtain ⟨⟨t388, t389⟩, A730, H⟩ := H
           replace H : ((laws_heldStringS.f kj52 t389 1).bind fun t390 => (if t390 < 0 then (some false) else (if t390 = t388 then ((laws_toNetwork.f kj52 l0_0 l0_1).bind fun bt391 => ((laws_toInt64S.f kj52 l1).bind fun t397 => ((impl_NodeReport.f kj52 bt391.1 bt391.2 t397).bind fun bt400 => ((laws_eqStringS.f kj52 bt400.1 t352).bind fun t404 => (if t404 = true then (laws_FnExactNodeReport.j2 kj52 t389 t388 (bt400.2 != t355)) else (laws_FnExactNodeReport.j2 kj52 t389 t388 true)))))) else (some false)))) = some r := H
           have A73 := Aside0.mk A730
           clear A730
           replace H := Option.bind_eq_some_iff.mp H
           obtain ⟨t390, A740, H⟩ := H
           replace H : (if t390 < 0 then (some false) else (if t390 = t388 then ((laws_toNetwork.f kj52 l0_0 l0_1).bind fun bt391 => ((laws_toInt64S.f kj52 l1).bind fun t397 => ((impl_NodeReport.f kj52 bt391.1 bt391.2 t397).bind fun bt400 => ((laws_eqStringS.f kj52 bt400.1 t352).bind fun t404 => (if t404 = true then (laws_FnExactNodeReport.j2 kj52 t389 t388 (bt400.2 != t355)) else (laws_FnExactNodeReport.j2 kj52 t389 t388 true)))))) else (some false))) = some r := H
           have A74 := Aside0.mk A740
           clear A740
           by_cases c75 : t390 < 0
           ·rw [if_pos c75] at H
            have c75b0 : decide (t390 < 0) = true := decide_eq_true c75
            clear c75
            obtain rfl := Option.some.inj H
            obtain ⟨Ao76, co76, eo76⟩ := Kd.R_slice HO_10.out
            subst eo76
            go_wp2_with (first | ((with_reducible refine gate_callee (f := 16) rfl ?_); refine goesL_ (some 83) rfl rfl Tryz.func16 (by kernel_rfl) rfl #[.slice Ao76 t366.length co76, .int .i64 1] rfl gZ ?_; (with_reducible refine (laws_markStringS.calls kj52 (fun k_ => some k_ = (.slice Ao76 t366.length co76 : Value).ownBlock) (.slice Ao76 t366.length co76) t366 1 t388 t389 w _ ?side1 ?side2 A73.out).mono ?_); (case side1 => repeat (first | (with_reducible first | exact HB.out | apply below_alloc | apply pw_below_drewN | apply below_drew1 | refine below_set ?_ GE341.out | refine below_set ?_ GE362.out) | exact HB.out)); (case side2 => exact Kd.R_tight rfl HO_10.out); rintro e w77 ⟨rfl, hy0, hb, hkp⟩; refine ⟨_, rfl, ?_⟩; have n0_ := Aside0.mk (Kd.R_mono (ok' := fun k_ => some k_ ≠ (.slice Ao76 t366.length co76 : Value).ownBlock) (Kd.R_keptB (HO_6.out) hkp (fun k_ hk_ hs_ => (hk_) hs_)) (fun k_ hk_ => hk_.1)); have n1_ := Aside0.mk (Kd.R_reok rfl hy0 (fun k_ e_ => HO_10.out.1 k_ e_)); have n2_ := Aside0.mk (Kd.R_mono (ok' := fun k_ => True) (Kd.R_keptB ((Kd.R_apart' HO_363000.out (Kd.R_typed HO_10.out) (by decide))) hkp (fun k_ hk_ hs_ => (hk_.2) hs_)) (fun k_ hk_ => trivial)); have n3_ := Aside0.mk (Kd.R_mono (ok' := fun k_ => True) (Kd.R_keptB ((Kd.R_apart' HO_363001.out (Kd.R_typed HO_10.out) (by decide))) hkp (fun k_ hk_ hs_ => (hk_.2) hs_)) (fun k_ hk_ => trivial)); have n4_ := Aside0.mk (blk_kept (kZ BK341.out) hkp (fun hs_ => (fun e_ => (Kd.R_ne HO_10.out BK341.out (by decide)) e_) hs_)); have n5_ := Aside0.mk (blk_kept (kZ BK362.out) hkp (fun hs_ => (fun e_ => (Kd.R_ne HO_10.out BK362.out (by decide)) e_) hs_)); have n6_ := Aside0.mk (hb); clear HO_6; clear HO_10; clear HO_363000; clear HO_363001; clear BK341; clear BK362; clear HB; have HO_6 := n0_; have HO_10 := n1_; have HO_363000 := n2_; have HO_363001 := n3_; have BK341 := n4_; have BK362 := n5_; have HB := n6_; clear n0_ n1_ n2_ n3_ n4_ n5_ n6_; (try clear hb); (try clear hkp); (try clear hy0)) | ((with_reducible refine gate_callee (f := 17) rfl ?_); refine goesL_ (some 86) rfl rfl Tryz.func17 (by kernel_rfl) rfl #[.slice Ao76 t389.length co76, .int .i64 1] rfl (by (try simp only [List.map_toArray, List.map_cons, List.map_nil]); first | done | (rw [show t389.length = t366.length from (Kd.R_reads' HO_10.out).1.symm] <;> rfl) | rfl | (simp only [List.length_drop, List.length_take]; rfl)) ?_; (with_reducible refine (laws_heldStringS.calls kj52 _ _ t389 1 t390 _ ?side1 ?side2 A74.out).mono ?_); (case side1 => exact Kd.cZ HO_10.out); (case side2 => rw [show t389.length = t366.length from (Kd.R_reads' HO_10.out).1.symm]; exact (Kd.R_reads' HO_10.out).2.1); rintro e w78 ⟨rfl, hb⟩; refine ⟨_, rfl, ?_⟩; have n0_ := Aside0.mk (Kd.R_below (Kd.rZ HO_6.out) hb); have n1_ := Aside0.mk (Kd.R_below (Kd.rZ HO_10.out) hb); have n2_ := Aside0.mk (Kd.R_below (Kd.rZ HO_363000.out) hb); have n3_ := Aside0.mk (Kd.R_below (Kd.rZ HO_363001.out) hb); have n4_ := Aside0.mk (blk_below (g := gb341) (o := .cells #[.slice A0_0 l0_0.length c0_0, .slice A0_1 l0_1.length c0_1] 25 (0, 0)) (kZ BK341.out) hb); have n5_ := Aside0.mk (blk_below (g := gb362) (o := .cells #[.slice Ao30 t383.length co30, .slice Ao33 t384.length co33] 32 (0, 0)) (kZ BK362.out) hb); have n6_ := Aside0.mk (below_step bZ hb); clear HO_6; clear HO_10; clear HO_363000; clear HO_363001; clear BK341; clear BK362; clear HB; have HO_6 := n0_; have HO_10 := n1_; have HO_363000 := n2_; have HO_363001 := n3_; have BK341 := n4_; have BK362 := n5_; have HB := n6_; clear n0_ n1_ n2_ n3_ n4_ n5_ n6_; (try clear hb); (try clear hb2); (try clear hk); (try clear hi)))
            go_ret
            exact ⟨eZ, bZ⟩
           ·rw [if_neg c75] at H
            have c75b0 : decide (t390 < 0) = false := decide_eq_false c75
            clear c75
            by_cases c79 : t390 = t388
            ·rw [if_pos c79] at H
             have c79b0 : (t390 == t388) = true := beq_iff_eq.mpr c79
             have c79b1 : (t390 != t388) = false := bne_eq_false_iff_eq.mpr c79
             clear c79
             replace H := Option.bind_eq_some_iff.mp H
             obtain ⟨⟨t391, t394⟩, A800, H⟩ := H
             replace H : ((laws_toInt64S.f kj52 l1).bind fun t397 => ((impl_NodeReport.f kj52 t391 t394 t397).bind fun bt400 => ((laws_eqStringS.f kj52 bt400.1 t352).bind fun t404 => (if t404 = true then (laws_FnExactNodeReport.j2 kj52 t389 t388 (bt400.2 != t355)) else (laws_FnExactNodeReport.j2 kj52 t389 t388 true))))) = some r := H
             have A80 := Aside0.mk A800
             clear A800
             replace H := Option.bind_eq_some_iff.mp H
             obtain ⟨t397, A810, H⟩ := H
             replace H : ((impl_NodeReport.f kj52 t391 t394 t397).bind fun bt400 => ((laws_eqStringS.f kj52 bt400.1 t352).bind fun t404 => (if t404 = true then (laws_FnExactNodeReport.j2 kj52 t389 t388 (bt400.2 != t355)) else (laws_FnExactNodeReport.j2 kj52 t389 t388 true)))) = some r := H
             have A81 := Aside0.mk A810
             clear A810
             replace H := Option.bind_eq_some_iff.mp H
             obtain ⟨⟨t400, t403⟩, A820, H⟩ := H
             replace H : ((laws_eqStringS.f kj52 t400 t352).bind fun t404 => (if t404 = true then (laws_FnExactNodeReport.j2 kj52 t389 t388 (t403 != t355)) else (laws_FnExactNodeReport.j2 kj52 t389 t388 true))) = some r := H
             have A82 := Aside0.mk A820
             clear A820
             have HC83 := Aside0.mk H
             clear H
             obtain ⟨Ao84, co84, eo84⟩ := Kd.R_slice HO_10.out
             subst eo84
             go_upto_region 31 with (first | ((with_reducible refine gate_callee (f := 16) rfl ?_); refine goesL_ (some 83) rfl rfl Tryz.func16 (by kernel_rfl) rfl #[.slice Ao84 t366.length co84, .int .i64 1] rfl gZ ?_; (with_reducible refine (laws_markStringS.calls kj52 (fun k_ => some k_ = (.slice Ao84 t366.length co84 : Value).ownBlock) (.slice Ao84 t366.length co84) t366 1 t388 t389 w _ ?side1 ?side2 A73.out).mono ?_); (case side1 => repeat (first | (with_reducible first | exact HB.out | apply below_alloc | apply pw_below_drewN | apply below_drew1 | refine below_set ?_ GE341.out | refine below_set ?_ GE362.out) | exact HB.out)); (case side2 => exact Kd.R_tight rfl HO_10.out); rintro e w85 ⟨rfl, hy0, hb, hkp⟩; refine ⟨_, rfl, ?_⟩; have n0_ := Aside0.mk (Kd.R_mono (ok' := fun k_ => some k_ ≠ (.slice Ao84 t366.length co84 : Value).ownBlock) (Kd.R_keptB (HO_6.out) hkp (fun k_ hk_ hs_ => (hk_) hs_)) (fun k_ hk_ => hk_.1)); have n1_ := Aside0.mk (Kd.R_reok rfl hy0 (fun k_ e_ => HO_10.out.1 k_ e_)); have n2_ := Aside0.mk (Kd.R_mono (ok' := fun k_ => True) (Kd.R_keptB ((Kd.R_apart' HO_363000.out (Kd.R_typed HO_10.out) (by decide))) hkp (fun k_ hk_ hs_ => (hk_.2) hs_)) (fun k_ hk_ => trivial)); have n3_ := Aside0.mk (Kd.R_mono (ok' := fun k_ => True) (Kd.R_keptB ((Kd.R_apart' HO_363001.out (Kd.R_typed HO_10.out) (by decide))) hkp (fun k_ hk_ hs_ => (hk_.2) hs_)) (fun k_ hk_ => trivial)); have n4_ := Aside0.mk (blk_kept (kZ BK341.out) hkp (fun hs_ => (fun e_ => (Kd.R_ne HO_10.out BK341.out (by decide)) e_) hs_)); have n5_ := Aside0.mk (blk_kept (kZ BK362.out) hkp (fun hs_ => (fun e_ => (Kd.R_ne HO_10.out BK362.out (by decide)) e_) hs_)); have n6_ := Aside0.mk (hb); clear HO_6; clear HO_10; clear HO_363000; clear HO_363001; clear BK341; clear BK362; clear HB; have HO_6 := n0_; have HO_10 := n1_; have HO_363000 := n2_; have HO_363001 := n3_; have BK341 := n4_; have BK362 := n5_; have HB := n6_; clear n0_ n1_ n2_ n3_ n4_ n5_ n6_; (try clear hb); (try clear hkp); (try clear hy0)) | ((with_reducible refine gate_callee (f := 17) rfl ?_); refine goesL_ (some 86) rfl rfl Tryz.func17 (by kernel_rfl) rfl #[.slice Ao84 t389.length co84, .int .i64 1] rfl (by (try simp only [List.map_toArray, List.map_cons, List.map_nil]); first | done | (rw [show t389.length = t366.length from (Kd.R_reads' HO_10.out).1.symm] <;> rfl) | rfl | (simp only [List.length_drop, List.length_take]; rfl)) ?_; (with_reducible refine (laws_heldStringS.calls kj52 _ _ t389 1 t390 _ ?side1 ?side2 A74.out).mono ?_); (case side1 => exact Kd.cZ HO_10.out); (case side2 => rw [show t389.length = t366.length from (Kd.R_reads' HO_10.out).1.symm]; exact (Kd.R_reads' HO_10.out).2.1); rintro e w86 ⟨rfl, hb⟩; refine ⟨_, rfl, ?_⟩; have n0_ := Aside0.mk (Kd.R_below (Kd.rZ HO_6.out) hb); have n1_ := Aside0.mk (Kd.R_below (Kd.rZ HO_10.out) hb); have n2_ := Aside0.mk (Kd.R_below (Kd.rZ HO_363000.out) hb); have n3_ := Aside0.mk (Kd.R_below (Kd.rZ HO_363001.out) hb); have n4_ := Aside0.mk (blk_below (g := gb341) (o := .cells #[.slice A0_0 l0_0.length c0_0, .slice A0_1 l0_1.length c0_1] 25 (0, 0)) (kZ BK341.out) hb); have n5_ := Aside0.mk (blk_below (g := gb362) (o := .cells #[.slice Ao30 t383.length co30, .slice Ao33 t384.length co33] 32 (0, 0)) (kZ BK362.out) hb); have n6_ := Aside0.mk (below_step bZ hb); clear HO_6; clear HO_10; clear HO_363000; clear HO_363001; clear BK341; clear BK362; clear HB; have HO_6 := n0_; have HO_10 := n1_; have HO_363000 := n2_; have HO_363001 := n3_; have BK341 := n4_; have BK362 := n5_; have HB := n6_; clear n0_ n1_ n2_ n3_ n4_ n5_ n6_; (try clear hb); (try clear hb2); (try clear hk); (try clear hi); have hnb87 := NB341_362.out; have hnc87 := NB362_341.out; have hcz88_0 := bc0 BK341.out; have hcz88_1 := bc1 BK341.out; have hfz88_0 := blk_frozen BK341.out 0; have hfz88_1 := blk_frozen BK341.out 1) | ((with_reducible refine gate_callee (f := 8) rfl ?_); refine goesL_ (some 94) rfl rfl Tryz.func8 (by kernel_rfl) rfl #[.agg #[.slice A0_0 l0_0.length c0_0, .slice A0_1 l0_1.length c0_1]] rfl gZ ?_; (with_reducible refine (laws_toNetwork.calls kj52 _ _ l0_0 _ _ l0_1 t391 t394 _ ?side1 ?side2 ?side3 ?side4 A80.out).mono ?_); (case side1 => repeat (first | exact (Kd.C_below HR0_0.out HB.out) | (with_reducible refine Kd.C_alloc ?_ _) | (with_reducible refine Kd.C_drewN ?_ _) | (with_reducible refine Kd.C_drew ?_))); (case side2 => exact HC0_0.out); (case side3 => repeat (first | exact (Kd.C_below HR0_1.out HB.out) | (with_reducible refine Kd.C_alloc ?_ _) | (with_reducible refine Kd.C_drewN ?_ _) | (with_reducible refine Kd.C_drew ?_))); (case side4 => exact HC0_1.out); rintro e w89 ⟨v392, v395, rfl, ho0, ho1, hb⟩; refine ⟨_, rfl, ?_⟩; have n0_ := Aside0.mk (Kd.R_below (Kd.rZ HO_6.out) hb); have n1_ := Aside0.mk (Kd.R_below (Kd.rZ HO_10.out) hb); have n2_ := Aside0.mk (Kd.R_elder' (Kd.rZ HO_363000.out) (Kd.R_base ho0) hb); have n3_ := Aside0.mk (Kd.R_elder' (Kd.rZ HO_363001.out) (Kd.R_base ho1) hb); have n4_ := Aside0.mk (Kd.R_lower (Kd.R_new' ho0 (Kd.R_lt (Kd.rZ HO_363000.out))) bsZ); have n5_ := Aside0.mk (Kd.R_lower (Kd.R_new' ho1 (Kd.R_lt (Kd.rZ HO_363001.out))) bsZ); have n6_ := Aside0.mk (blk_below (g := gb341) (o := .cells #[.slice A0_0 l0_0.length c0_0, .slice A0_1 l0_1.length c0_1] 25 (0, 0)) (kZ BK341.out) hb); have n7_ := Aside0.mk (blk_below (g := gb362) (o := .cells #[.slice Ao30 t383.length co30, .slice Ao33 t384.length co33] 32 (0, 0)) (kZ BK362.out) hb); have n8_ := Aside0.mk (below_step bZ hb); clear HO_6; clear HO_10; clear HO_363000; clear HO_363001; clear BK341; clear BK362; clear HB; have HO_6 := n0_; have HO_10 := n1_; have HO_363000 := n2_; have HO_363001 := n3_; have HO393 := n4_; have HO396 := n5_; have BK341 := n6_; have BK362 := n7_; have HB := n8_; clear n0_ n1_ n2_ n3_ n4_ n5_ n6_ n7_ n8_; (try clear hb); (try clear hb2); (try clear hk); (try clear hi); (try clear ho0); (try clear ho1)) | ((with_reducible refine gate_callee (f := 9) rfl ?_); refine goesL_ (some 96) rfl rfl Tryz.func9 (by kernel_rfl) rfl #[.slice A1 l1.length c1] rfl gZ ?_; (with_reducible refine (laws_toInt64S.calls kj52 _ _ l1 t397 _ ?side1 ?side2 A81.out).mono ?_); (case side1 => repeat (first | exact (Kd.C_below HR1.out HB.out) | (with_reducible refine Kd.C_alloc ?_ _) | (with_reducible refine Kd.C_drewN ?_ _) | (with_reducible refine Kd.C_drew ?_))); (case side2 => exact HC1.out); rintro e w90 ⟨v398, rfl, ho0, hb⟩; refine ⟨_, rfl, ?_⟩; have n0_ := Aside0.mk (Kd.R_below (Kd.rZ HO_6.out) hb); have n1_ := Aside0.mk (Kd.R_below (Kd.rZ HO_10.out) hb); have n2_ := Aside0.mk (Kd.R_elder' (Kd.rZ HO_363000.out) (Kd.R_base ho0) hb); have n3_ := Aside0.mk (Kd.R_below (Kd.rZ HO_363001.out) hb); have n4_ := Aside0.mk (Kd.R_elder' (Kd.rZ HO393.out) (Kd.R_base ho0) hb); have n5_ := Aside0.mk (Kd.R_below (Kd.rZ HO396.out) hb); have n6_ := Aside0.mk (Kd.R_lower (Kd.R_new' (Kd.R_new' ho0 (Kd.R_lt (Kd.rZ HO_363000.out))) (Kd.R_lt (Kd.rZ HO393.out))) bsZ); have n7_ := Aside0.mk (blk_below (g := gb341) (o := .cells #[.slice A0_0 l0_0.length c0_0, .slice A0_1 l0_1.length c0_1] 25 (0, 0)) (kZ BK341.out) hb); have n8_ := Aside0.mk (blk_below (g := gb362) (o := .cells #[.slice Ao30 t383.length co30, .slice Ao33 t384.length co33] 32 (0, 0)) (kZ BK362.out) hb); have n9_ := Aside0.mk (below_step bZ hb); clear HO_6; clear HO_10; clear HO_363000; clear HO_363001; clear HO393; clear HO396; clear BK341; clear BK362; clear HB; have HO_6 := n0_; have HO_10 := n1_; have HO_363000 := n2_; have HO_363001 := n3_; have HO393 := n4_; have HO396 := n5_; have HO399 := n6_; have BK341 := n7_; have BK362 := n8_; have HB := n9_; clear n0_ n1_ n2_ n3_ n4_ n5_ n6_ n7_ n8_ n9_; (try clear hb); (try clear hb2); (try clear hk); (try clear hi); (try clear ho0); obtain ⟨Ao91, co91, eo91⟩ := Kd.R_slice HO393.out; subst eo91; obtain ⟨Ao92, co92, eo92⟩ := Kd.R_slice HO396.out; subst eo92; obtain ⟨Ao93, co93, eo93⟩ := Kd.R_slice HO399.out; subst eo93) | ((with_reducible refine gate_callee (f := 10) rfl ?_); refine goesL_ (some 97) rfl rfl Tryz.func10 (by kernel_rfl) rfl #[.agg #[.slice Ao91 t391.length co91, .slice Ao92 t394.length co92], .slice Ao93 t397.length co93] rfl gZ ?_; (with_reducible refine (impl_NodeReport.calls kj52 _ _ t391 _ _ t394 _ _ t397 t400 t403 _ ?side1 ?side2 ?side3 ?side4 ?side5 ?side6 ?side7 A82.out).mono ?_); (case side1 => exact Kd.cZ HO393.out); (case side2 => exact (Kd.R_reads' HO393.out).2.1); (case side3 => exact Kd.cZ HO396.out); (case side4 => exact (Kd.R_reads' HO396.out).2.1); (case side5 => exact Kd.cZ HO399.out); (case side6 => exact (Kd.R_reads' HO399.out).2.1); (case side7 => exact HSH.out.below (show Below w.heap.size w _ from bZ)); rintro e w94 ⟨v401, rfl, ho0, hb⟩; refine ⟨_, rfl, ?_⟩; have n0_ := Aside0.mk (Kd.R_elder' (Kd.rZ HO_6.out) (Kd.R_base ho0) hb); have n1_ := Aside0.mk (Kd.R_elder' (Kd.rZ HO_10.out) (Kd.R_base ho0) hb); have n2_ := Aside0.mk (Kd.R_below (Kd.rZ HO_363000.out) hb); have n3_ := Aside0.mk (Kd.R_below (Kd.rZ HO_363001.out) hb); have n4_ := Aside0.mk (Kd.R_below (Kd.rZ HO393.out) hb); have n5_ := Aside0.mk (Kd.R_below (Kd.rZ HO396.out) hb); have n6_ := Aside0.mk (Kd.R_below (Kd.rZ HO399.out) hb); have n7_ := Aside0.mk (Kd.R_lower (Kd.R_new' (Kd.R_new' ho0 (Kd.R_lt (Kd.rZ HO_6.out))) (Kd.R_lt (Kd.rZ HO_10.out))) bsZ); have n8_ := Aside0.mk (blk_below (g := gb341) (o := .cells #[.slice A0_0 l0_0.length c0_0, .slice A0_1 l0_1.length c0_1] 25 (0, 0)) (kZ BK341.out) hb); have n9_ := Aside0.mk (blk_below (g := gb362) (o := .cells #[.slice Ao30 t383.length co30, .slice Ao33 t384.length co33] 32 (0, 0)) (kZ BK362.out) hb); have n10_ := Aside0.mk (below_step bZ hb); clear HO_6; clear HO_10; clear HO_363000; clear HO_363001; clear HO393; clear HO396; clear HO399; clear BK341; clear BK362; clear HB; have HO_6 := n0_; have HO_10 := n1_; have HO_363000 := n2_; have HO_363001 := n3_; have HO393 := n4_; have HO396 := n5_; have HO399 := n6_; have HO402 := n7_; have BK341 := n8_; have BK362 := n9_; have HB := n10_; clear n0_ n1_ n2_ n3_ n4_ n5_ n6_ n7_ n8_ n9_ n10_; (try clear hb); (try clear hb2); (try clear hk); (try clear hi); (try clear ho0)))
             (try simp only [Act.put, List.setIfInBounds_toArray, List.set_cons_zero, List.set_cons_succ])
             go_cut [108] (fun v108 wc => ∃ (kq : Nat) (x108_82 : Bool), v108 = .bool x108_82 ∧ Aside0 (laws_FnExactNodeReport.j2 kq t389 t388 x108_82 = some r) ∧ Aside0 (kq ≤ kj52) ∧ Aside0 (Kd.R Kd.string 9 wc w.heap.size (fun _ => True) (.slice Ao84 t366.length co84) t389) ∧ Aside0 (Kd.R (Kd.int .i64) 2 wc w.heap.size (fun _ => True) (.slice Ao30 t383.length co30) t383) ∧ Aside0 (Kd.R k58 58 wc w.heap.size (fun _ => True) (.slice Ao33 t384.length co33) t384) ∧ Aside0 (wc.heap[gb341]? = some (.cells #[(.slice A0_0 l0_0.length c0_0), (.slice A0_1 l0_1.length c0_1)] 25 (0, 0))) ∧ Aside0 (wc.heap[gb362]? = some (.cells #[(.slice Ao30 t383.length co30), (.slice Ao33 t384.length co33)] 32 (0, 0))) ∧ Aside0 (Below w.heap.size w wc))
             case first =>
              have H := HC83.out
              clear HC83
              replace H := Option.bind_eq_some_iff.mp H
              obtain ⟨t404, A950, H⟩ := H
              replace H : (if t404 = true then (laws_FnExactNodeReport.j2 kj52 t389 t388 (t403 != t355)) else (laws_FnExactNodeReport.j2 kj52 t389 t388 true)) = some r := H
              have A95 := Aside0.mk A950
              clear A950
              by_cases c96 : t404 = true
              ·subst c96
               have H1 : (laws_FnExactNodeReport.j2 kj52 t389 t388 (t403 != t355)) = some r := by rw [if_pos rfl] at H; exact H
               clear H
               have H := H1
               clear H1
               have H' := Aside0.mk H
               clear H
               obtain ⟨Ao97, co97, eo97⟩ := Kd.R_slice HO402.out
               subst eo97
               obtain ⟨Ao98, co98, eo98⟩ := Kd.R_slice HO_6.out
               subst eo98
               go_wp2_with (first | ((with_reducible refine gate_callee (f := 11) rfl ?_); refine goesL_ (some 102) rfl rfl Tryz.func11 (by kernel_rfl) rfl #[.slice Ao97 t400.length co97, .slice Ao98 t352.length co98] rfl gZ ?_; (with_reducible refine (laws_eqStringS.calls kj52 _ _ t400 _ _ t352 true _ ?side1 ?side2 ?side3 ?side4 A95.out).mono ?_); (case side1 => exact Kd.cZ HO402.out); (case side2 => exact (Kd.R_reads' HO402.out).2.1); (case side3 => exact Kd.cZ HO_6.out); (case side4 => exact (Kd.R_reads' HO_6.out).2.1); rintro e w' ⟨rfl, ⟨nd, rfl⟩⟩; refine ⟨_, rfl, ?_⟩))
               go_meet
               case rel => exact ⟨_, ((t403 != t355)), sZ, H', ⟨by have := HJ15.out; have := HJ52.out; first | omega | exact Nat.le_refl _⟩, ⟨by (try simp only [hl363000_52]); (try simp only [hl363001_52]); (with_reducible repeat (first | apply Kd.R_alloc | apply Kd.R_drewN | apply Kd.R_drew)); exact Kd.R_mono HO_10.out (fun _ hk => trivial)⟩, ⟨by (try simp only [hl363000_52]); (try simp only [hl363001_52]); (with_reducible repeat (first | apply Kd.R_alloc | apply Kd.R_drewN | apply Kd.R_drew)); exact Kd.R_mono HO_363000.out (fun _ hk => trivial)⟩, ⟨by (try simp only [hl363000_52]); (try simp only [hl363001_52]); (with_reducible repeat (first | apply Kd.R_alloc | apply Kd.R_drewN | apply Kd.R_drew)); exact Kd.R_mono HO_363001.out (fun _ hk => trivial)⟩, ⟨by (try simp only [hl363000_52]); (try simp only [hl363001_52]); (with_reducible repeat (first | refine blk_drewN ?_ _ | refine blk_drew ?_ | refine blk_alloc ?_ _)); exact BK341.out⟩, ⟨by (try simp only [hl363000_52]); (try simp only [hl363001_52]); (with_reducible repeat (first | refine blk_drewN ?_ _ | refine blk_drew ?_ | refine blk_alloc ?_ _)); exact BK362.out⟩, ⟨bZ⟩⟩
              ·replace c96 := Bool.eq_false_iff.mpr c96
               subst c96
               have H1 : (laws_FnExactNodeReport.j2 kj52 t389 t388 true) = some r := by rw [if_neg (show ¬ (false = true) by decide)] at H; exact H
               clear H
               have H := H1
               clear H1
               have H' := Aside0.mk H
               clear H
               obtain ⟨Ao99, co99, eo99⟩ := Kd.R_slice HO402.out
               subst eo99
               obtain ⟨Ao100, co100, eo100⟩ := Kd.R_slice HO_6.out
               subst eo100
               go_wp2_with (first | ((with_reducible refine gate_callee (f := 11) rfl ?_); refine goesL_ (some 102) rfl rfl Tryz.func11 (by kernel_rfl) rfl #[.slice Ao99 t400.length co99, .slice Ao100 t352.length co100] rfl gZ ?_; (with_reducible refine (laws_eqStringS.calls kj52 _ _ t400 _ _ t352 false _ ?side1 ?side2 ?side3 ?side4 A95.out).mono ?_); (case side1 => exact Kd.cZ HO402.out); (case side2 => exact (Kd.R_reads' HO402.out).2.1); (case side3 => exact Kd.cZ HO_6.out); (case side4 => exact (Kd.R_reads' HO_6.out).2.1); rintro e w' ⟨rfl, ⟨nd, rfl⟩⟩; refine ⟨_, rfl, ?_⟩))
               go_meet
               case rel => exact ⟨_, (true), sZ, H', ⟨by have := HJ15.out; have := HJ52.out; first | omega | exact Nat.le_refl _⟩, ⟨by (try simp only [hl363000_52]); (try simp only [hl363001_52]); (with_reducible repeat (first | apply Kd.R_alloc | apply Kd.R_drewN | apply Kd.R_drew)); exact Kd.R_mono HO_10.out (fun _ hk => trivial)⟩, ⟨by (try simp only [hl363000_52]); (try simp only [hl363001_52]); (with_reducible repeat (first | apply Kd.R_alloc | apply Kd.R_drewN | apply Kd.R_drew)); exact Kd.R_mono HO_363000.out (fun _ hk => trivial)⟩, ⟨by (try simp only [hl363000_52]); (try simp only [hl363001_52]); (with_reducible repeat (first | apply Kd.R_alloc | apply Kd.R_drewN | apply Kd.R_drew)); exact Kd.R_mono HO_363001.out (fun _ hk => trivial)⟩, ⟨by (try simp only [hl363000_52]); (try simp only [hl363001_52]); (with_reducible repeat (first | refine blk_drewN ?_ _ | refine blk_drew ?_ | refine blk_alloc ?_ _)); exact BK341.out⟩, ⟨by (try simp only [hl363000_52]); (try simp only [hl363001_52]); (with_reducible repeat (first | refine blk_drewN ?_ _ | refine blk_drew ?_ | refine blk_alloc ?_ _)); exact BK362.out⟩, ⟨bZ⟩⟩
             case rest =>
              clear HC83; (try clear c1); (try clear p2); (try clear c3); (try clear c3b0); (try clear c3b1); (try clear c4); (try clear c5); (try clear c6); (try clear c6b0); (try clear c7); (try clear c8); (try clear c9); (try clear c10); (try clear c11); (try clear c12); (try clear c13); (try clear c14); (try clear c15); (try clear c16); (try clear c17); (try clear c31); (try clear c39); (try clear c44); (try clear c47); (try clear c50); (try clear c61); (try clear c65); (try clear c65b0); (try clear c67); (try clear c72); (try clear c75); (try clear c75b0); (try clear c79); (try clear c79b0); (try clear c79b1); (try clear c87); (try clear c96); (try clear hcz18_0); (try clear hcz18_1); (try clear hcz20_0); (try clear hcz20_1); (try clear hcz27_0); (try clear hcz27_1); (try clear hcz32_0); (try clear hcz32_1); (try clear hcz35_0); (try clear hcz35_1); (try clear hcz62_0); (try clear hcz62_1); (try clear hcz88_0); (try clear hcz88_1); (try clear hcz8_0); (try clear hcz8_1); (try clear hfz18_0); (try clear hfz18_1); (try clear hfz20_0); (try clear hfz20_1); (try clear hfz27_0); (try clear hfz27_1); (try clear hfz32_0); (try clear hfz32_1); (try clear hfz35_0); (try clear hfz35_1); (try clear hfz62_0); (try clear hfz62_1); (try clear hfz88_0); (try clear hfz88_1); (try clear hfz8_0); (try clear hfz8_1); (try clear p2)
              obtain ⟨kq, x108_82, rfl, HA, HJ82, HO_10, HO_363000, HO_363001, BK341, BK362, HB⟩ := hcut
              have hl10_82 := (Kd.R_reads' HO_10.out).1
              rw [hl10_82] at HO_10
              (try simp only [hl10_82])
              (try simp only [hl10_82] at BK341)
              (try simp only [hl10_82] at BK362)
              (try simp only [hl10_82] at HO_363000)
              (try simp only [hl10_82] at HO_363001)
              cases kq with
              | zero => exact absurd HA.out (by simp [laws_FnExactNodeReport.j2])
              | succ kj82 =>
               have H := HA.out
               clear HA
               simp only [laws_FnExactNodeReport.j2] at H
               by_cases c101 : x108_82 = true
               ·subst c101
                have H1 : (some false) = some r := by rw [if_pos rfl] at H; exact H
                clear H
                have H := H1
                clear H1
                obtain rfl := Option.some.inj H
                go_wp2
                go_ret
                exact ⟨eZ, bZ⟩
               ·replace c101 := Bool.eq_false_iff.mpr c101
                subst c101
                have H1 : ((laws_heldStringS.f kj82 t389 1).bind fun t405 => (if t405 < 0 then (some false) else (if t405 = t388 then (some true) else (some false)))) = some r := by rw [if_neg (show ¬ (false = true) by decide)] at H; exact H
                clear H
                have H := H1
                clear H1
                replace H := Option.bind_eq_some_iff.mp H
                obtain ⟨t405, A1020, H⟩ := H
                replace H : (if t405 < 0 then (some false) else (if t405 = t388 then (some true) else (some false))) = some r := H
                have A102 := Aside0.mk A1020
                clear A1020
                by_cases c103 : t405 < 0
                ·rw [if_pos c103] at H
                 have c103b0 : decide (t405 < 0) = true := decide_eq_true c103
                 clear c103
                 obtain rfl := Option.some.inj H
                 go_wp2_with (first | ((with_reducible refine gate_callee (f := 17) rfl ?_); refine goesL_ (some 111) rfl rfl Tryz.func17 (by kernel_rfl) rfl #[.slice Ao84 t389.length co84, .int .i64 1] rfl gZ ?_; (with_reducible refine (laws_heldStringS.calls kj82 _ _ t389 1 t405 _ ?side1 ?side2 A102.out).mono ?_); (case side1 => exact Kd.cZ HO_10.out); (case side2 => exact (Kd.R_reads' HO_10.out).2.1); rintro e w104 ⟨rfl, hb⟩; refine ⟨_, rfl, ?_⟩; have n0_ := Aside0.mk (Kd.R_below (Kd.rZ HO_10.out) hb); have n1_ := Aside0.mk (Kd.R_below (Kd.rZ HO_363000.out) hb); have n2_ := Aside0.mk (Kd.R_below (Kd.rZ HO_363001.out) hb); have n3_ := Aside0.mk (blk_below (g := gb341) (o := .cells #[.slice A0_0 l0_0.length c0_0, .slice A0_1 l0_1.length c0_1] 25 (0, 0)) (kZ BK341.out) hb); have n4_ := Aside0.mk (blk_below (g := gb362) (o := .cells #[.slice Ao30 t383.length co30, .slice Ao33 t384.length co33] 32 (0, 0)) (kZ BK362.out) hb); have n5_ := Aside0.mk (below_step bZ hb); clear HO_10; clear HO_363000; clear HO_363001; clear BK341; clear BK362; clear HB; have HO_10 := n0_; have HO_363000 := n1_; have HO_363001 := n2_; have BK341 := n3_; have BK362 := n4_; have HB := n5_; clear n0_ n1_ n2_ n3_ n4_ n5_; (try clear hb); (try clear hb2); (try clear hk); (try clear hi)))
                 go_ret
                 exact ⟨eZ, bZ⟩
                ·rw [if_neg c103] at H
                 have c103b0 : decide (t405 < 0) = false := decide_eq_false c103
                 clear c103
                 by_cases c105 : t405 = t388
                 ·rw [if_pos c105] at H
                  have c105b0 : (t405 == t388) = true := beq_iff_eq.mpr c105
                  have c105b1 : (t405 != t388) = false := bne_eq_false_iff_eq.mpr c105
                  clear c105
                  obtain rfl := Option.some.inj H
                  go_wp2_with (first | ((with_reducible refine gate_callee (f := 17) rfl ?_); refine goesL_ (some 111) rfl rfl Tryz.func17 (by kernel_rfl) rfl #[.slice Ao84 t389.length co84, .int .i64 1] rfl gZ ?_; (with_reducible refine (laws_heldStringS.calls kj82 _ _ t389 1 t405 _ ?side1 ?side2 A102.out).mono ?_); (case side1 => exact Kd.cZ HO_10.out); (case side2 => exact (Kd.R_reads' HO_10.out).2.1); rintro e w106 ⟨rfl, hb⟩; refine ⟨_, rfl, ?_⟩; have n0_ := Aside0.mk (Kd.R_below (Kd.rZ HO_10.out) hb); have n1_ := Aside0.mk (Kd.R_below (Kd.rZ HO_363000.out) hb); have n2_ := Aside0.mk (Kd.R_below (Kd.rZ HO_363001.out) hb); have n3_ := Aside0.mk (blk_below (g := gb341) (o := .cells #[.slice A0_0 l0_0.length c0_0, .slice A0_1 l0_1.length c0_1] 25 (0, 0)) (kZ BK341.out) hb); have n4_ := Aside0.mk (blk_below (g := gb362) (o := .cells #[.slice Ao30 t383.length co30, .slice Ao33 t384.length co33] 32 (0, 0)) (kZ BK362.out) hb); have n5_ := Aside0.mk (below_step bZ hb); clear HO_10; clear HO_363000; clear HO_363001; clear BK341; clear BK362; clear HB; have HO_10 := n0_; have HO_363000 := n1_; have HO_363001 := n2_; have BK341 := n3_; have BK362 := n4_; have HB := n5_; clear n0_ n1_ n2_ n3_ n4_ n5_; (try clear hb); (try clear hb2); (try clear hk); (try clear hi)))
                  go_ret
                  exact ⟨eZ, bZ⟩
                 ·rw [if_neg c105] at H
                  have c105b0 : (t405 == t388) = false := beq_eq_false_iff_ne.mpr c105
                  have c105b1 : (t405 != t388) = true := bne_iff_ne.mpr c105
                  obtain rfl := Option.some.inj H
                  go_wp2_with (first | ((with_reducible refine gate_callee (f := 17) rfl ?_); refine goesL_ (some 111) rfl rfl Tryz.func17 (by kernel_rfl) rfl #[.slice Ao84 t389.length co84, .int .i64 1] rfl gZ ?_; (with_reducible refine (laws_heldStringS.calls kj82 _ _ t389 1 t405 _ ?side1 ?side2 A102.out).mono ?_); (case side1 => exact Kd.cZ HO_10.out); (case side2 => exact (Kd.R_reads' HO_10.out).2.1); rintro e w107 ⟨rfl, hb⟩; refine ⟨_, rfl, ?_⟩; have n0_ := Aside0.mk (Kd.R_below (Kd.rZ HO_10.out) hb); have n1_ := Aside0.mk (Kd.R_below (Kd.rZ HO_363000.out) hb); have n2_ := Aside0.mk (Kd.R_below (Kd.rZ HO_363001.out) hb); have n3_ := Aside0.mk (blk_below (g := gb341) (o := .cells #[.slice A0_0 l0_0.length c0_0, .slice A0_1 l0_1.length c0_1] 25 (0, 0)) (kZ BK341.out) hb); have n4_ := Aside0.mk (blk_below (g := gb362) (o := .cells #[.slice Ao30 t383.length co30, .slice Ao33 t384.length co33] 32 (0, 0)) (kZ BK362.out) hb); have n5_ := Aside0.mk (below_step bZ hb); clear HO_10; clear HO_363000; clear HO_363001; clear BK341; clear BK362; clear HB; have HO_10 := n0_; have HO_363000 := n1_; have HO_363001 := n2_; have BK341 := n3_; have BK362 := n4_; have HB := n5_; clear n0_ n1_ n2_ n3_ n4_ n5_; (try clear hb); (try clear hb2); (try clear hk); (try clear hi)))
                  go_ret
                  exact ⟨eZ, bZ⟩
            ·rw [if_neg c79] at H
             have c79b0 : (t390 == t388) = false := beq_eq_false_iff_ne.mpr c79
             have c79b1 : (t390 != t388) = true := bne_iff_ne.mpr c79
             obtain rfl := Option.some.inj H
             obtain ⟨Ao108, co108, eo108⟩ := Kd.R_slice HO_10.out
             subst eo108
             go_wp2_with (first | ((with_reducible refine gate_callee (f := 16) rfl ?_); refine goesL_ (some 83) rfl rfl Tryz.func16 (by kernel_rfl) rfl #[.slice Ao108 t366.length co108, .int .i64 1] rfl gZ ?_; (with_reducible refine (laws_markStringS.calls kj52 (fun k_ => some k_ = (.slice Ao108 t366.length co108 : Value).ownBlock) (.slice Ao108 t366.length co108) t366 1 t388 t389 w _ ?side1 ?side2 A73.out).mono ?_); (case side1 => repeat (first | (with_reducible first | exact HB.out | apply below_alloc | apply pw_below_drewN | apply below_drew1 | refine below_set ?_ GE341.out | refine below_set ?_ GE362.out) | exact HB.out)); (case side2 => exact Kd.R_tight rfl HO_10.out); rintro e w109 ⟨rfl, hy0, hb, hkp⟩; refine ⟨_, rfl, ?_⟩; have n0_ := Aside0.mk (Kd.R_mono (ok' := fun k_ => some k_ ≠ (.slice Ao108 t366.length co108 : Value).ownBlock) (Kd.R_keptB (HO_6.out) hkp (fun k_ hk_ hs_ => (hk_) hs_)) (fun k_ hk_ => hk_.1)); have n1_ := Aside0.mk (Kd.R_reok rfl hy0 (fun k_ e_ => HO_10.out.1 k_ e_)); have n2_ := Aside0.mk (Kd.R_mono (ok' := fun k_ => True) (Kd.R_keptB ((Kd.R_apart' HO_363000.out (Kd.R_typed HO_10.out) (by decide))) hkp (fun k_ hk_ hs_ => (hk_.2) hs_)) (fun k_ hk_ => trivial)); have n3_ := Aside0.mk (Kd.R_mono (ok' := fun k_ => True) (Kd.R_keptB ((Kd.R_apart' HO_363001.out (Kd.R_typed HO_10.out) (by decide))) hkp (fun k_ hk_ hs_ => (hk_.2) hs_)) (fun k_ hk_ => trivial)); have n4_ := Aside0.mk (blk_kept (kZ BK341.out) hkp (fun hs_ => (fun e_ => (Kd.R_ne HO_10.out BK341.out (by decide)) e_) hs_)); have n5_ := Aside0.mk (blk_kept (kZ BK362.out) hkp (fun hs_ => (fun e_ => (Kd.R_ne HO_10.out BK362.out (by decide)) e_) hs_)); have n6_ := Aside0.mk (hb); clear HO_6; clear HO_10; clear HO_363000; clear HO_363001; clear BK341; clear BK362; clear HB; have HO_6 := n0_; have HO_10 := n1_; have HO_363000 := n2_; have HO_363001 := n3_; have BK341 := n4_; have BK362 := n5_; have HB := n6_; clear n0_ n1_ n2_ n3_ n4_ n5_ n6_; (try clear hb); (try clear hkp); (try clear hy0)) | ((with_reducible refine gate_callee (f := 17) rfl ?_); refine goesL_ (some 86) rfl rfl Tryz.func17 (by kernel_rfl) rfl #[.slice Ao108 t389.length co108, .int .i64 1] rfl (by (try simp only [List.map_toArray, List.map_cons, List.map_nil]); first | done | (rw [show t389.length = t366.length from (Kd.R_reads' HO_10.out).1.symm] <;> rfl) | rfl | (simp only [List.length_drop, List.length_take]; rfl)) ?_; (with_reducible refine (laws_heldStringS.calls kj52 _ _ t389 1 t390 _ ?side1 ?side2 A74.out).mono ?_); (case side1 => exact Kd.cZ HO_10.out); (case side2 => rw [show t389.length = t366.length from (Kd.R_reads' HO_10.out).1.symm]; exact (Kd.R_reads' HO_10.out).2.1); rintro e w110 ⟨rfl, hb⟩; refine ⟨_, rfl, ?_⟩; have n0_ := Aside0.mk (Kd.R_below (Kd.rZ HO_6.out) hb); have n1_ := Aside0.mk (Kd.R_below (Kd.rZ HO_10.out) hb); have n2_ := Aside0.mk (Kd.R_below (Kd.rZ HO_363000.out) hb); have n3_ := Aside0.mk (Kd.R_below (Kd.rZ HO_363001.out) hb); have n4_ := Aside0.mk (blk_below (g := gb341) (o := .cells #[.slice A0_0 l0_0.length c0_0, .slice A0_1 l0_1.length c0_1] 25 (0, 0)) (kZ BK341.out) hb); have n5_ := Aside0.mk (blk_below (g := gb362) (o := .cells #[.slice Ao30 t383.length co30, .slice Ao33 t384.length co33] 32 (0, 0)) (kZ BK362.out) hb); have n6_ := Aside0.mk (below_step bZ hb); clear HO_6; clear HO_10; clear HO_363000; clear HO_363001; clear BK341; clear BK362; clear HB; have HO_6 := n0_; have HO_10 := n1_; have HO_363000 := n2_; have HO_363001 := n3_; have BK341 := n4_; have BK362 := n5_; have HB := n6_; clear n0_ n1_ n2_ n3_ n4_ n5_ n6_; (try clear hb); (try clear hb2); (try clear hk); (try clear hi)))
             go_ret
             exact ⟨eZ, bZ⟩
       ·replace c50 := Bool.eq_false_iff.mpr c50
        subst c50
        have H1 : (some false) = some r := by rw [if_neg (show ¬ (false = true) by decide)] at H; exact H
        clear H
        have H := H1
        clear H1
        obtain rfl := Option.some.inj H
        try go_wp2
        have n0_ := Aside0.mk (Kd.R_drew HO_6.out)
        have n1_ := Aside0.mk (Kd.R_drew HO_9.out)
        have n2_ := Aside0.mk (Kd.R_drew HO_10.out)
        have n3_ := Aside0.mk (Kd.R_drew HO_363000.out)
        have n4_ := Aside0.mk (Kd.R_drew HO_363001.out)
        have n5_ := Aside0.mk (blk_drew BK341.out)
        have n6_ := Aside0.mk (blk_drew BK362.out)
        have n7_ := Aside0.mk (below_drew1 HB.out)
        clear HO_6; clear HO_9; clear HO_10; clear HO_363000; clear HO_363001; clear BK341; clear BK362; clear HB
        have HO_6 := n0_
        have HO_9 := n1_
        have HO_10 := n2_
        have HO_363000 := n3_
        have HO_363001 := n4_
        have BK341 := n5_
        have BK362 := n6_
        have HB := n7_
        clear n0_ n1_ n2_ n3_ n4_ n5_ n6_ n7_
        refine start_ (n := 5) (S := fun w' => w'.cell? ⟨gb362, 0, none⟩ = some (.slice Ao30 t356.length co30) ∧ w'.cell? ⟨gb362, 1, none⟩ = some (.slice Ao33 t359.length co33) ∧ w'.cell? ⟨gb341, 0, none⟩ = some (.slice A0_0 l0_0.length c0_0) ∧ w'.cell? ⟨gb341, 1, none⟩ = some (.slice A0_1 l0_1.length c0_1)) (ds := []) #[false, false, false, false, false] (by kernel_rfl) rfl rfl ⟨(blk_cell BK362.out 0).trans rfl, (blk_cell BK362.out 1).trans rfl, (blk_cell BK341.out 0).trans rfl, (blk_cell BK341.out 1).trans rfl⟩ (fun hHeld => ?_)
        generalize wc.drew = w111 at HO_6 HO_9 HO_10 HO_363000 HO_363001 BK341 BK362 HB hHeld ⊢
        refine take_ (i := 0) (N := some 52) (v := ?_) (a' := ?_) #[true, false, false, false, false] rfl rfl (by kernel_rfl) (fun _ _ _ h => h) (Or.inl ⟨by rfl, ?_⟩) hHeld ?_ ?_
        rotate_left
        ·rintro w' ⟨s0, s1, s2, s3⟩
         go_simp
         with_reducible rfl
        rotate_left
        ·simp only [Act.put, List.setIfInBounds_toArray, List.set_cons_zero, List.set_cons_succ, i64_w, i32_w]
         rfl
        refine take_ (i := 1) (N := some 53) (v := ?_) (a' := ?_) #[true, true, false, false, false] rfl rfl (by kernel_rfl) (fun _ _ _ h => h) (Or.inl ⟨by rfl, ?_⟩) hHeld ?_ ?_
        rotate_left
        ·rintro w' ⟨s0, s1, s2, s3⟩
         go_simp
         with_reducible rfl
        rotate_left
        ·simp only [Act.put, List.setIfInBounds_toArray, List.set_cons_zero, List.set_cons_succ, i64_w, i32_w]
         rfl
        refine one_ (i := 2) (N := some 54) #[true, true, true, false, false] rfl rfl (by kernel_rfl) (by decide) (fun K hK => ?_)
        refine goes_ Tryz.func8 (by kernel_rfl) rfl #[.agg #[.slice A0_0 l0_0.length c0_0, .slice A0_1 l0_1.length c0_1]] (by rfl) rfl rfl gZ ?_
        with_reducible refine (laws_toNetwork.calls kj15 _ _ l0_0 _ _ l0_1 t371 t374 _ ?side1 ?side2 ?side3 ?side4 A45.out).mono ?_
        (case side1 => repeat (first | exact (Kd.C_below HR0_0.out HB.out) | (with_reducible refine Kd.C_alloc ?_ _) | (with_reducible refine Kd.C_drewN ?_ _) | (with_reducible refine Kd.C_drew ?_)))
        (case side2 => exact HC0_0.out)
        (case side3 => repeat (first | exact (Kd.C_below HR0_1.out HB.out) | (with_reducible refine Kd.C_alloc ?_ _) | (with_reducible refine Kd.C_drewN ?_ _) | (with_reducible refine Kd.C_drew ?_)))
        (case side4 => exact HC0_1.out)
        rintro e w112 ⟨v372, v375, rfl, ho0, ho1, hb⟩
        refine ⟨_, rfl, ?_⟩
        have n0_ := Aside0.mk (Kd.R_below (Kd.rZ HO_6.out) hb)
        have n1_ := Aside0.mk (Kd.R_elder' (Kd.rZ HO_9.out) (Kd.R_base ho0) hb)
        have n2_ := Aside0.mk (Kd.R_below (Kd.rZ HO_10.out) hb)
        have n3_ := Aside0.mk (Kd.R_elder' (Kd.rZ HO_363000.out) (Kd.R_base ho0) hb)
        have n4_ := Aside0.mk (Kd.R_elder' (Kd.rZ HO_363001.out) (Kd.R_base ho1) hb)
        have n5_ := Aside0.mk (Kd.R_lower (Kd.R_new' (Kd.R_new' ho0 (Kd.R_lt (Kd.rZ HO_9.out))) (Kd.R_lt (Kd.rZ HO_363000.out))) bsZ)
        have n6_ := Aside0.mk (Kd.R_lower (Kd.R_new' ho1 (Kd.R_lt (Kd.rZ HO_363001.out))) bsZ)
        have n7_ := Aside0.mk (blk_below (g := gb341) (o := .cells #[.slice A0_0 l0_0.length c0_0, .slice A0_1 l0_1.length c0_1] 25 (0, 0)) (kZ BK341.out) hb)
        have n8_ := Aside0.mk (blk_below (g := gb362) (o := .cells #[.slice Ao30 t356.length co30, .slice Ao33 t359.length co33] 32 (0, 0)) (kZ BK362.out) hb)
        have n9_ := Aside0.mk (below_step bZ hb)
        clear HO_6; clear HO_9; clear HO_10; clear HO_363000; clear HO_363001; clear BK341; clear BK362; clear HB
        have HO_6 := n0_
        have HO_9 := n1_
        have HO_10 := n2_
        have HO_363000 := n3_
        have HO_363001 := n4_
        have HO373 := n5_
        have HO376 := n6_
        have BK341 := n7_
        have BK362 := n8_
        have HB := n9_
        clear n0_ n1_ n2_ n3_ n4_ n5_ n6_ n7_ n8_ n9_
        (try clear hb)
        (try clear hb2)
        (try clear hk)
        (try clear hi)
        (try clear ho0)
        (try clear ho1)
        obtain ⟨Ao113, co113, eo113⟩ := Kd.R_slice HO373.out
        (first | subst eo113 | (injection eo113 with f1_ f2_ f3_; have f4_ := f1_.symm; have f5_ := f3_.symm; clear f1_ f2_ f3_; subst f4_; subst f5_))
        obtain ⟨Ao114, co114, eo114⟩ := Kd.R_slice HO376.out
        (first | subst eo114 | (injection eo114 with f1_ f2_ f3_; have f4_ := f1_.symm; have f5_ := f3_.symm; clear f1_ f2_ f3_; subst f4_; subst f5_))
        refine hK.out _ _ ⟨(blk_cell BK362.out 0).trans rfl, (blk_cell BK362.out 1).trans rfl, (blk_cell BK341.out 0).trans rfl, (blk_cell BK341.out 1).trans rfl⟩ (fun hHeld => ?_)
        clear hK K
        refine norm_ (a' := ?_) ?_ ?_
        rotate_left
        ·show Act.put _ (some 54) _ = _
         simp only [Act.put, List.setIfInBounds_toArray, List.set_cons_zero, List.set_cons_succ, i64_w, i32_w]
         rfl
        refine one_ (i := 3) (N := some 55) #[true, true, true, true, false] rfl rfl (by kernel_rfl) (by decide) (fun K hK => ?_)
        refine goes_ Tryz.func12 (by kernel_rfl) rfl #[.agg #[.slice Ao30 t356.length co30, .slice Ao33 t359.length co33], .agg #[.slice Ao113 t371.length co113, .slice Ao114 t374.length co114]] (by rfl) rfl rfl gZ ?_
        with_reducible refine (laws_eqNetwork.calls kj15 _ _ t356 _ _ t359 _ _ t371 _ _ t374 true _ ?side1 ?side2 ?side3 ?side4 ?side5 ?side6 ?side7 ?side8 A46.out).mono ?_
        (case side1 => exact Kd.cZ HO_363000.out)
        (case side2 => exact (Kd.R_reads' HO_363000.out).2.1)
        (case side3 => exact Kd.cZ HO_363001.out)
        (case side4 => exact (Kd.R_reads' HO_363001.out).2.1)
        (case side5 => exact Kd.cZ HO373.out)
        (case side6 => exact (Kd.R_reads' HO373.out).2.1)
        (case side7 => exact Kd.cZ HO376.out)
        (case side8 => exact (Kd.R_reads' HO376.out).2.1)
        rintro e w115 ⟨rfl, hb⟩
        refine ⟨_, rfl, ?_⟩
        have n0_ := Aside0.mk (Kd.R_below (Kd.rZ HO_6.out) hb)
        have n1_ := Aside0.mk (Kd.R_below (Kd.rZ HO_9.out) hb)
        have n2_ := Aside0.mk (Kd.R_below (Kd.rZ HO_10.out) hb)
        have n3_ := Aside0.mk (Kd.R_below (Kd.rZ HO_363000.out) hb)
        have n4_ := Aside0.mk (Kd.R_below (Kd.rZ HO_363001.out) hb)
        have n5_ := Aside0.mk (Kd.R_below (Kd.rZ HO373.out) hb)
        have n6_ := Aside0.mk (Kd.R_below (Kd.rZ HO376.out) hb)
        have n7_ := Aside0.mk (blk_below (g := gb341) (o := .cells #[.slice A0_0 l0_0.length c0_0, .slice A0_1 l0_1.length c0_1] 25 (0, 0)) (kZ BK341.out) hb)
        have n8_ := Aside0.mk (blk_below (g := gb362) (o := .cells #[.slice Ao30 t356.length co30, .slice Ao33 t359.length co33] 32 (0, 0)) (kZ BK362.out) hb)
        have n9_ := Aside0.mk (below_step bZ hb)
        clear HO_6; clear HO_9; clear HO_10; clear HO_363000; clear HO_363001; clear HO373; clear HO376; clear BK341; clear BK362; clear HB
        have HO_6 := n0_
        have HO_9 := n1_
        have HO_10 := n2_
        have HO_363000 := n3_
        have HO_363001 := n4_
        have HO373 := n5_
        have HO376 := n6_
        have BK341 := n7_
        have BK362 := n8_
        have HB := n9_
        clear n0_ n1_ n2_ n3_ n4_ n5_ n6_ n7_ n8_ n9_
        (try clear hb)
        (try clear hb2)
        (try clear hk)
        (try clear hi)
        refine hK.out _ _ ⟨(blk_cell BK362.out 0).trans rfl, (blk_cell BK362.out 1).trans rfl, (blk_cell BK341.out 0).trans rfl, (blk_cell BK341.out 1).trans rfl⟩ (fun hHeld => ?_)
        clear hK K
        refine norm_ (a' := ?_) ?_ ?_
        rotate_left
        ·show Act.put _ (some 55) _ = _
         simp only [Act.put, List.setIfInBounds_toArray, List.set_cons_zero, List.set_cons_succ, i64_w, i32_w]
         rfl
        refine puY 4 (some 56) #[true, true, true, true, true] rfl rfl ?_
        refine done_ (by kernel_rfl) ?_
        try go_wp2_with (first | ((with_reducible refine gate_callee (f := 9) rfl ?_); refine goesL_ (some 59) rfl rfl Tryz.func9 (by kernel_rfl) rfl #[.slice A1 l1.length c1] rfl gZ ?_; (with_reducible refine (laws_toInt64S.calls kj15 _ _ l1 t378 _ ?side1 ?side2 A48.out).mono ?_); (case side1 => repeat (first | exact (Kd.C_below HR1.out HB.out) | (with_reducible refine Kd.C_alloc ?_ _) | (with_reducible refine Kd.C_drewN ?_ _) | (with_reducible refine Kd.C_drew ?_))); (case side2 => exact HC1.out); rintro e w116 ⟨v379, rfl, ho0, hb⟩; refine ⟨_, rfl, ?_⟩; have n0_ := Aside0.mk (Kd.R_below (Kd.rZ HO_6.out) hb); have n1_ := Aside0.mk (Kd.R_elder' (Kd.rZ HO_9.out) (Kd.R_base ho0) hb); have n2_ := Aside0.mk (Kd.R_below (Kd.rZ HO_10.out) hb); have n3_ := Aside0.mk (Kd.R_elder' (Kd.rZ HO_363000.out) (Kd.R_base ho0) hb); have n4_ := Aside0.mk (Kd.R_below (Kd.rZ HO_363001.out) hb); have n5_ := Aside0.mk (Kd.R_elder' (Kd.rZ HO373.out) (Kd.R_base ho0) hb); have n6_ := Aside0.mk (Kd.R_below (Kd.rZ HO376.out) hb); have n7_ := Aside0.mk (Kd.R_lower (Kd.R_new' (Kd.R_new' (Kd.R_new' ho0 (Kd.R_lt (Kd.rZ HO_9.out))) (Kd.R_lt (Kd.rZ HO_363000.out))) (Kd.R_lt (Kd.rZ HO373.out))) bsZ); have n8_ := Aside0.mk (blk_below (g := gb341) (o := .cells #[.slice A0_0 l0_0.length c0_0, .slice A0_1 l0_1.length c0_1] 25 (0, 0)) (kZ BK341.out) hb); have n9_ := Aside0.mk (blk_below (g := gb362) (o := .cells #[.slice Ao30 t356.length co30, .slice Ao33 t359.length co33] 32 (0, 0)) (kZ BK362.out) hb); have n10_ := Aside0.mk (below_step bZ hb); clear HO_6; clear HO_9; clear HO_10; clear HO_363000; clear HO_363001; clear HO373; clear HO376; clear BK341; clear BK362; clear HB; have HO_6 := n0_; have HO_9 := n1_; have HO_10 := n2_; have HO_363000 := n3_; have HO_363001 := n4_; have HO373 := n5_; have HO376 := n6_; have HO380 := n7_; have BK341 := n8_; have BK362 := n9_; have HB := n10_; clear n0_ n1_ n2_ n3_ n4_ n5_ n6_ n7_ n8_ n9_ n10_; (try clear hb); (try clear hb2); (try clear hk); (try clear hi); (try clear ho0); obtain ⟨Ao117, co117, eo117⟩ := Kd.R_slice HO380.out; subst eo117) | ((with_reducible refine gate_callee (f := 13) rfl ?_); refine goesL_ (some 60) rfl rfl Tryz.func13 (by kernel_rfl) rfl #[.slice Ao36 t363.length co36, .slice Ao117 t378.length co117] rfl gZ ?_; (with_reducible refine (laws_eqInt64S.calls kj15 _ _ t363 _ _ t378 false _ ?side1 ?side2 ?side3 ?side4 A49.out).mono ?_); (case side1 => exact Kd.cZ HO_9.out); (case side2 => exact (Kd.R_reads' HO_9.out).2.1); (case side3 => exact Kd.cZ HO380.out); (case side4 => exact (Kd.R_reads' HO380.out).2.1); rintro e w' ⟨rfl, ⟨nd, rfl⟩⟩; refine ⟨_, rfl, ?_⟩))
        go_ret
        exact ⟨eZ, bZ⟩
      ·replace c47 := Bool.eq_false_iff.mpr c47
       subst c47
       have H1 : (some false) = some r := by rw [if_neg (show ¬ (false = true) by decide)] at H; exact H
       clear H
       have H := H1
       clear H1
       obtain rfl := Option.some.inj H
       try go_wp2
       have n0_ := Aside0.mk (Kd.R_drew HO_6.out)
       have n1_ := Aside0.mk (Kd.R_drew HO_9.out)
       have n2_ := Aside0.mk (Kd.R_drew HO_10.out)
       have n3_ := Aside0.mk (Kd.R_drew HO_363000.out)
       have n4_ := Aside0.mk (Kd.R_drew HO_363001.out)
       have n5_ := Aside0.mk (blk_drew BK341.out)
       have n6_ := Aside0.mk (blk_drew BK362.out)
       have n7_ := Aside0.mk (below_drew1 HB.out)
       clear HO_6; clear HO_9; clear HO_10; clear HO_363000; clear HO_363001; clear BK341; clear BK362; clear HB
       have HO_6 := n0_
       have HO_9 := n1_
       have HO_10 := n2_
       have HO_363000 := n3_
       have HO_363001 := n4_
       have BK341 := n5_
       have BK362 := n6_
       have HB := n7_
       clear n0_ n1_ n2_ n3_ n4_ n5_ n6_ n7_
       refine start_ (n := 5) (S := fun w' => w'.cell? ⟨gb362, 0, none⟩ = some (.slice Ao30 t356.length co30) ∧ w'.cell? ⟨gb362, 1, none⟩ = some (.slice Ao33 t359.length co33) ∧ w'.cell? ⟨gb341, 0, none⟩ = some (.slice A0_0 l0_0.length c0_0) ∧ w'.cell? ⟨gb341, 1, none⟩ = some (.slice A0_1 l0_1.length c0_1)) (ds := []) #[false, false, false, false, false] (by kernel_rfl) rfl rfl ⟨(blk_cell BK362.out 0).trans rfl, (blk_cell BK362.out 1).trans rfl, (blk_cell BK341.out 0).trans rfl, (blk_cell BK341.out 1).trans rfl⟩ (fun hHeld => ?_)
       generalize wc.drew = w118 at HO_6 HO_9 HO_10 HO_363000 HO_363001 BK341 BK362 HB hHeld ⊢
       refine take_ (i := 0) (N := some 52) (v := ?_) (a' := ?_) #[true, false, false, false, false] rfl rfl (by kernel_rfl) (fun _ _ _ h => h) (Or.inl ⟨by rfl, ?_⟩) hHeld ?_ ?_
       rotate_left
       ·rintro w' ⟨s0, s1, s2, s3⟩
        go_simp
        with_reducible rfl
       rotate_left
       ·simp only [Act.put, List.setIfInBounds_toArray, List.set_cons_zero, List.set_cons_succ, i64_w, i32_w]
        rfl
       refine take_ (i := 1) (N := some 53) (v := ?_) (a' := ?_) #[true, true, false, false, false] rfl rfl (by kernel_rfl) (fun _ _ _ h => h) (Or.inl ⟨by rfl, ?_⟩) hHeld ?_ ?_
       rotate_left
       ·rintro w' ⟨s0, s1, s2, s3⟩
        go_simp
        with_reducible rfl
       rotate_left
       ·simp only [Act.put, List.setIfInBounds_toArray, List.set_cons_zero, List.set_cons_succ, i64_w, i32_w]
        rfl
       refine one_ (i := 2) (N := some 54) #[true, true, true, false, false] rfl rfl (by kernel_rfl) (by decide) (fun K hK => ?_)
       refine goes_ Tryz.func8 (by kernel_rfl) rfl #[.agg #[.slice A0_0 l0_0.length c0_0, .slice A0_1 l0_1.length c0_1]] (by rfl) rfl rfl gZ ?_
       with_reducible refine (laws_toNetwork.calls kj15 _ _ l0_0 _ _ l0_1 t371 t374 _ ?side1 ?side2 ?side3 ?side4 A45.out).mono ?_
       (case side1 => repeat (first | exact (Kd.C_below HR0_0.out HB.out) | (with_reducible refine Kd.C_alloc ?_ _) | (with_reducible refine Kd.C_drewN ?_ _) | (with_reducible refine Kd.C_drew ?_)))
       (case side2 => exact HC0_0.out)
       (case side3 => repeat (first | exact (Kd.C_below HR0_1.out HB.out) | (with_reducible refine Kd.C_alloc ?_ _) | (with_reducible refine Kd.C_drewN ?_ _) | (with_reducible refine Kd.C_drew ?_)))
       (case side4 => exact HC0_1.out)
       rintro e w119 ⟨v372, v375, rfl, ho0, ho1, hb⟩
       refine ⟨_, rfl, ?_⟩
       have n0_ := Aside0.mk (Kd.R_below (Kd.rZ HO_6.out) hb)
       have n1_ := Aside0.mk (Kd.R_elder' (Kd.rZ HO_9.out) (Kd.R_base ho0) hb)
       have n2_ := Aside0.mk (Kd.R_below (Kd.rZ HO_10.out) hb)
       have n3_ := Aside0.mk (Kd.R_elder' (Kd.rZ HO_363000.out) (Kd.R_base ho0) hb)
       have n4_ := Aside0.mk (Kd.R_elder' (Kd.rZ HO_363001.out) (Kd.R_base ho1) hb)
       have n5_ := Aside0.mk (Kd.R_lower (Kd.R_new' (Kd.R_new' ho0 (Kd.R_lt (Kd.rZ HO_9.out))) (Kd.R_lt (Kd.rZ HO_363000.out))) bsZ)
       have n6_ := Aside0.mk (Kd.R_lower (Kd.R_new' ho1 (Kd.R_lt (Kd.rZ HO_363001.out))) bsZ)
       have n7_ := Aside0.mk (blk_below (g := gb341) (o := .cells #[.slice A0_0 l0_0.length c0_0, .slice A0_1 l0_1.length c0_1] 25 (0, 0)) (kZ BK341.out) hb)
       have n8_ := Aside0.mk (blk_below (g := gb362) (o := .cells #[.slice Ao30 t356.length co30, .slice Ao33 t359.length co33] 32 (0, 0)) (kZ BK362.out) hb)
       have n9_ := Aside0.mk (below_step bZ hb)
       clear HO_6; clear HO_9; clear HO_10; clear HO_363000; clear HO_363001; clear BK341; clear BK362; clear HB
       have HO_6 := n0_
       have HO_9 := n1_
       have HO_10 := n2_
       have HO_363000 := n3_
       have HO_363001 := n4_
       have HO373 := n5_
       have HO376 := n6_
       have BK341 := n7_
       have BK362 := n8_
       have HB := n9_
       clear n0_ n1_ n2_ n3_ n4_ n5_ n6_ n7_ n8_ n9_
       (try clear hb)
       (try clear hb2)
       (try clear hk)
       (try clear hi)
       (try clear ho0)
       (try clear ho1)
       obtain ⟨Ao120, co120, eo120⟩ := Kd.R_slice HO373.out
       (first | subst eo120 | (injection eo120 with f1_ f2_ f3_; have f4_ := f1_.symm; have f5_ := f3_.symm; clear f1_ f2_ f3_; subst f4_; subst f5_))
       obtain ⟨Ao121, co121, eo121⟩ := Kd.R_slice HO376.out
       (first | subst eo121 | (injection eo121 with f1_ f2_ f3_; have f4_ := f1_.symm; have f5_ := f3_.symm; clear f1_ f2_ f3_; subst f4_; subst f5_))
       refine hK.out _ _ ⟨(blk_cell BK362.out 0).trans rfl, (blk_cell BK362.out 1).trans rfl, (blk_cell BK341.out 0).trans rfl, (blk_cell BK341.out 1).trans rfl⟩ (fun hHeld => ?_)
       clear hK K
       refine norm_ (a' := ?_) ?_ ?_
       rotate_left
       ·show Act.put _ (some 54) _ = _
        simp only [Act.put, List.setIfInBounds_toArray, List.set_cons_zero, List.set_cons_succ, i64_w, i32_w]
        rfl
       refine one_ (i := 3) (N := some 55) #[true, true, true, true, false] rfl rfl (by kernel_rfl) (by decide) (fun K hK => ?_)
       refine goes_ Tryz.func12 (by kernel_rfl) rfl #[.agg #[.slice Ao30 t356.length co30, .slice Ao33 t359.length co33], .agg #[.slice Ao120 t371.length co120, .slice Ao121 t374.length co121]] (by rfl) rfl rfl gZ ?_
       with_reducible refine (laws_eqNetwork.calls kj15 _ _ t356 _ _ t359 _ _ t371 _ _ t374 false _ ?side1 ?side2 ?side3 ?side4 ?side5 ?side6 ?side7 ?side8 A46.out).mono ?_
       (case side1 => exact Kd.cZ HO_363000.out)
       (case side2 => exact (Kd.R_reads' HO_363000.out).2.1)
       (case side3 => exact Kd.cZ HO_363001.out)
       (case side4 => exact (Kd.R_reads' HO_363001.out).2.1)
       (case side5 => exact Kd.cZ HO373.out)
       (case side6 => exact (Kd.R_reads' HO373.out).2.1)
       (case side7 => exact Kd.cZ HO376.out)
       (case side8 => exact (Kd.R_reads' HO376.out).2.1)
       rintro e w122 ⟨rfl, hb⟩
       refine ⟨_, rfl, ?_⟩
       have n0_ := Aside0.mk (Kd.R_below (Kd.rZ HO_6.out) hb)
       have n1_ := Aside0.mk (Kd.R_below (Kd.rZ HO_9.out) hb)
       have n2_ := Aside0.mk (Kd.R_below (Kd.rZ HO_10.out) hb)
       have n3_ := Aside0.mk (Kd.R_below (Kd.rZ HO_363000.out) hb)
       have n4_ := Aside0.mk (Kd.R_below (Kd.rZ HO_363001.out) hb)
       have n5_ := Aside0.mk (Kd.R_below (Kd.rZ HO373.out) hb)
       have n6_ := Aside0.mk (Kd.R_below (Kd.rZ HO376.out) hb)
       have n7_ := Aside0.mk (blk_below (g := gb341) (o := .cells #[.slice A0_0 l0_0.length c0_0, .slice A0_1 l0_1.length c0_1] 25 (0, 0)) (kZ BK341.out) hb)
       have n8_ := Aside0.mk (blk_below (g := gb362) (o := .cells #[.slice Ao30 t356.length co30, .slice Ao33 t359.length co33] 32 (0, 0)) (kZ BK362.out) hb)
       have n9_ := Aside0.mk (below_step bZ hb)
       clear HO_6; clear HO_9; clear HO_10; clear HO_363000; clear HO_363001; clear HO373; clear HO376; clear BK341; clear BK362; clear HB
       have HO_6 := n0_
       have HO_9 := n1_
       have HO_10 := n2_
       have HO_363000 := n3_
       have HO_363001 := n4_
       have HO373 := n5_
       have HO376 := n6_
       have BK341 := n7_
       have BK362 := n8_
       have HB := n9_
       clear n0_ n1_ n2_ n3_ n4_ n5_ n6_ n7_ n8_ n9_
       (try clear hb)
       (try clear hb2)
       (try clear hk)
       (try clear hi)
       refine hK.out _ _ ⟨(blk_cell BK362.out 0).trans rfl, (blk_cell BK362.out 1).trans rfl, (blk_cell BK341.out 0).trans rfl, (blk_cell BK341.out 1).trans rfl⟩ (fun hHeld => ?_)
       clear hK K
       refine norm_ (a' := ?_) ?_ ?_
       rotate_left
       ·show Act.put _ (some 55) _ = _
        simp only [Act.put, List.setIfInBounds_toArray, List.set_cons_zero, List.set_cons_succ, i64_w, i32_w]
        rfl
       refine puY 4 (some 56) #[true, true, true, true, true] rfl rfl ?_
       refine done_ (by kernel_rfl) ?_
       try go_wp2
       go_ret
       exact ⟨eZ, bZ⟩
end Go.Proofs.YtadaegehdcngdaaGreatDoor.XV
end

section
namespace Go.Proofs.YtadaegehdcngdaaGreatDoor.Open
open Go.ChangeShapes Go.WideShapes Go.RowKit Go.Proofs.YtadaegehdcngdaaGreatDoorW.PrintWords
set_option linter.unusedVariables false
def Opens (P : Program) (t : TypeId) {α : Type} (d : Kd α) (Q : α → Prop) : Prop :=
  P.cellsOf t = d.sz ∧ ∀ (H : Type) (enc : TypeId × Value → H) (w : World) (base : Nat) (spare : Nat → Bool) (held : Bool) (fuel : Nat) (cs : List Value) (x : DataW H × List MemPlace),
    DataW.trod enc P w base spare held fuel t cs = some x → ∃ a : α, d.K w a cs ∧ Q a
theorem Opens.int {P : Program} {t : TypeId} {k : IntKind} (hu : P.underlying t = some (.int k)) (hc : P.cellsOf t = 1) : Opens P t (Kd.int k) (fun n => (Lit.int k n).wf = true) := by
  refine ⟨hc, fun H enc w base spare held fuel cs x h => ?_⟩
  obtain ⟨n, rfl, _, hw⟩ := DataW.trod_int hu h
  exact ⟨n, rfl, hw⟩
theorem Opens.bool {P : Program} {t : TypeId} (hu : P.underlying t = some .bool) (hc : P.cellsOf t = 1) : Opens P t Kd.bool (fun _ => True) := by
  refine ⟨hc, fun H enc w base spare held fuel cs x h => ?_⟩
  obtain ⟨b, rfl, _⟩ := DataW.trod_bool hu h
  exact ⟨b, rfl, trivial⟩
theorem Opens.string {P : Program} {t : TypeId} (hu : P.underlying t = some .string) (hc : P.cellsOf t = 1) : Opens P t Kd.string (fun s => s.size ≤ maxLen) := by
  refine ⟨hc, fun H enc w base spare held fuel cs x h => ?_⟩
  obtain ⟨s, rfl, _, hs⟩ := DataW.trod_string hu h
  exact ⟨s, rfl, hs⟩
theorem choose_list {α : Type} {n : Nat} {p : Nat → α → Prop} (h : ∀ i, i < n → ∃ x, p i x) : ∃ l : List α, l.length = n ∧ ∀ i x, l[i]? = some x → p i x := by
  induction n with
  | zero => exact ⟨[], rfl, fun i x hx => by simp at hx⟩
  | succ n ih =>
    obtain ⟨l, hl, hp⟩ := ih (fun i hi => h i (by omega))
    obtain ⟨x, hx⟩ := h n (by omega)
    refine ⟨l ++ [x], by simp [hl], fun i y hy => ?_⟩
    rcases Nat.lt_or_ge i l.length with hi | hi
    · rw [List.getElem?_append_left hi] at hy
      exact hp i y hy
    · have : i = l.length := by
        have := (List.getElem?_eq_some_iff.1 hy).1
        simp at this
        omega
      subst this
      simp at hy
      subst hy
      rw [hl]
      exact hx
theorem cells?_get {w : World} {base : Nat} {a : Addr} {n : Nat} {cs : List Value} (h : w.cells? base a n = some cs) (i : Nat) (u : Value) (hu : cs[i]? = some u) : w.cell? (a.add i) = some u := by
  unfold World.cells? at h
  split at h
  · have hlen : cs.length = n := by simpa using mapM_some_length h
    have hi : i < n := by
      have := (List.getElem?_eq_some_iff.1 hu).1
      omega
    have := mapM_some_get h i i (by simp [hi])
    rw [hu] at this
    exact this
  · cases h
theorem Opens.slice {P : Program} {t e : TypeId} {α : Type} {d : Kd α} {Q : α → Prop} (hu : P.underlying t = some (.slice e)) (hc : P.cellsOf t = 1) (hd : Opens P e d Q) :
    Opens P t (Kd.slice e d) (fun xs => xs.length ≤ maxLen ∧ ∀ x ∈ xs, Q x) := by
  refine ⟨hc, fun H enc w base spare held fuel cs x h => ?_⟩
  rcases Go.Deep.open_slice hu h with ⟨rfl, _⟩ | ⟨a, len, cap, m, n, D, Pl, rfl, _, hl, hm, hmm, _, hx⟩
  · exact ⟨[], ⟨none, 0, rfl, Nat.le_refl _, rfl, by simp, fun h => absurd h (by simp)⟩, by simp, fun x hx => by simp at hx⟩
  · have hlm : len ≤ m := by rw [hmm]; split <;> omega
    obtain ⟨l, hl1, hp⟩ := choose_list (n := len) (p := fun i (x : α) => ∃ cs', w.cells? base (a.add (i * d.sz)) d.sz = some cs' ∧ d.K w x cs' ∧ Q x) (fun i hi => by
      obtain ⟨cs', h1, h2⟩ := hx i (by omega)
      rw [hd.1] at h1
      obtain ⟨y, hy, hq⟩ := hd.2 H enc w base spare held n cs' _ h2
      exact ⟨y, cs', h1, hy, hq⟩)
    have hmax : (maxLen : Nat) = 9223372036854775807 := by unfold maxLen; omega
    refine ⟨l, ⟨some a, cap, by rw [hl1], by omega, rfl, by omega, fun _ => ⟨a, rfl, fun j p hj => ?_⟩⟩, by omega, fun x hx => ?_⟩
    · obtain ⟨cs', h1, h2, _⟩ := hp j p hj
      refine ⟨cs', d.K_len h2, h2, fun i u hi => ?_⟩
      have := cells?_get h1 i u hi
      rwa [Go.Deep.add_add] at this
    · obtain ⟨i, hi, rfl⟩ := List.mem_iff_getElem.1 hx
      obtain ⟨cs', _, _, h3⟩ := hp i _ (List.getElem?_eq_getElem hi)
      exact h3
def OpensF (P : Program) (fs : List Field) (off : Nat) {α : Type} (d : Kd α) (Q : α → Prop) : Prop :=
  ∀ (H : Type) (enc : TypeId × Value → H) (w : World) (base : Nat) (spare : Nat → Bool) (held : Bool) (n : Nat) (cs : List Value), off + d.sz = cs.length →
    (∀ f ∈ fs, ∃ y, DataW.trod enc P w base spare held n f.type ((cs.drop f.offset).take (P.cellsOf f.type)) = some y) → ∃ a : α, d.K w a (cs.drop off) ∧ Q a
theorem OpensF.one {P : Program} {f : Field} {off : Nat} {α : Type} {d : Kd α} {Q : α → Prop} (ho : f.offset = off) (h : Opens P f.type d Q) : OpensF P [f] off d Q := by
  intro H enc w base spare held n cs hl hf
  obtain ⟨y, hy⟩ := hf f List.mem_cons_self
  rw [ho, h.1, List.take_of_length_le (by rw [List.length_drop]; omega)] at hy
  exact h.2 H enc w base spare held n _ y hy
theorem OpensF.cons {P : Program} {f : Field} {fs : List Field} {off : Nat} {α β : Type} {d1 : Kd α} {d2 : Kd β} {Q1 : α → Prop} {Q2 : β → Prop} (ho : f.offset = off) (h : Opens P f.type d1 Q1) (hs : OpensF P fs (off + d1.sz) d2 Q2) :
    OpensF P (f :: fs) off (Kd.pair d1 d2) (fun x => Q1 x.1 ∧ Q2 x.2) := by
  intro H enc w base spare held n cs hl hf
  have hl' : off + (d1.sz + d2.sz) = cs.length := hl
  obtain ⟨y, hy⟩ := hf f List.mem_cons_self
  rw [ho, h.1] at hy
  obtain ⟨a, ha, qa⟩ := h.2 H enc w base spare held n _ y hy
  obtain ⟨b, hb, qb⟩ := hs H enc w base spare held n cs (by omega) (fun g hg => hf g (List.mem_cons_of_mem _ hg))
  refine ⟨(a, b), ⟨_, _, ?_, ha, hb⟩, qa, qb⟩
  rw [← List.drop_drop, List.take_append_drop]
theorem Opens.struct {P : Program} {t : TypeId} {fs : Array Field} {α β : Type} {d : Kd α} {Q : α → Prop} (f : β → α) (g : α → β) (hfg : ∀ x, f (g x) = x) (hu : P.underlying t = some (.struct fs)) (hc : P.cellsOf t = d.sz) (h : OpensF P fs.toList 0 d Q) :
    Opens P t (Kd.iso d f) (fun x => Q (f x)) := by
  refine ⟨hc, fun H enc w base spare held fuel cs x hx => ?_⟩
  obtain ⟨xs, n, rfl, _, hl, hxs, hf⟩ := DataW.trod_struct hu hx
  obtain ⟨a, ha, qa⟩ := h H enc w base spare held n cs (by omega) (fun f hf0 => by
    obtain ⟨i, hi, rfl⟩ := List.mem_iff_getElem.1 hf0
    have hi' : i < fs.size := by simpa using hi
    have := hf i fs[i] (Array.getElem?_eq_getElem hi')
    rw [List.getElem?_eq_getElem (by omega)] at this
    exact ⟨_, by simpa using this⟩)
  refine ⟨g a, ?_, ?_⟩
  · show d.K w (f (g a)) cs
    rw [hfg]
    simpa using ha
  · show Q (f (g a))
    rw [hfg]
    exact qa
theorem open_sl {H : Type} {enc : TypeId × Value → H} {P : Program} {W : World} {base B : Nat} {spare : Nat → Bool} {held : Bool} {t e : TypeId} {v : Value} {dd : DataW H} {ps : List MemPlace} {α : Type} {d : Kd α} {Q : α → Prop}
    (hu : P.underlying t = some (.slice e)) (hc : P.cellsOf t = 1) (hd : Opens P e d Q) (hv : Value.okWide P W .any B t v) (h : DataW.Trod enc P W base spare held t v dd ps) :
    ∃ (A : Option Addr) (c : Nat) (l : List α), v = .slice A l.length c ∧ l.length ≤ c ∧ Kd.C d W A l.length l ∧ l.length ≤ maxLen ∧ ∀ x ∈ l, Q x := by
  obtain ⟨a0, len, cap, rfl⟩ := okWide_slice hu hv
  obtain ⟨fuel, hf⟩ := h
  obtain ⟨l, ⟨A, c, he, hl, hC⟩, hm, hq⟩ := (Opens.slice hu hc hd).2 H enc W base spare held fuel _ _ hf
  refine ⟨A, c, l, ?_, hl, hC, hm, hq⟩
  simpa [Value.cells] using he
theorem open_st {H : Type} {enc : TypeId × Value → H} {P : Program} {W : World} {base B : Nat} {spare : Nat → Bool} {held : Bool} {t : TypeId} {fs : Array Field} {v : Value} {dd : DataW H} {ps : List MemPlace} {α : Type} {d : Kd α} {Q : α → Prop}
    (hu : P.underlying t = some (.struct fs)) (hd : Opens P t d Q) (hv : Value.okWide P W .any B t v) (h : DataW.Trod enc P W base spare held t v dd ps) :
    ∃ (cs : List Value) (x : α), v = .agg cs.toArray ∧ d.K W x cs ∧ Q x := by
  obtain ⟨cs, rfl, _⟩ := okWide_struct hu hv
  obtain ⟨fuel, hf⟩ := h
  obtain ⟨x, hK, hq⟩ := hd.2 H enc W base spare held fuel _ _ hf
  exact ⟨cs.toList, x, by simp, by simpa [Value.cells] using hK, hq⟩
end Go.Proofs.YtadaegehdcngdaaGreatDoor.Open
end

section
namespace Go.Proofs.YtadaegehdcngdaaGreatDoor.XV
open Go.RowKit Go.Proofs.YtadaegehdcngdaaGreatDoorW.PrintWords Go.Proofs.YtadaegehdcngdaaGreatDoor.Open
set_option linter.unusedVariables false
def Q86 (x : S86) : Prop := (x.f0.size ≤ maxLen) ∧ ((Lit.int .i64 x.f1).wf = true) ∧ ((Lit.int .i64 x.f2).wf = true) ∧ ((Lit.int .i64 x.f3).wf = true) ∧ ((Lit.int .i64 x.f4).wf = true) ∧ ((Lit.int .i64 x.f5).wf = true)
theorem opens86 : Opens Tryz.prog 86 k86 Q86 := Opens.struct (fun x : S86 => (x.f0, x.f1, x.f2, x.f3, x.f4, x.f5)) (fun p => (⟨p.1, p.2.1, p.2.2.1, p.2.2.2.1, p.2.2.2.2.1, p.2.2.2.2.2⟩ : S86)) (fun _ => rfl) Tryz.underlying86 (by kernel_rfl) (OpensF.cons rfl (Opens.string Tryz.underlying9 (by kernel_rfl)) (OpensF.cons rfl (Opens.int Tryz.underlying2 (by kernel_rfl)) (OpensF.cons rfl (Opens.int Tryz.underlying2 (by kernel_rfl)) (OpensF.cons rfl (Opens.int Tryz.underlying2 (by kernel_rfl)) (OpensF.cons rfl (Opens.int Tryz.underlying2 (by kernel_rfl)) (OpensF.one rfl (Opens.int Tryz.underlying2 (by kernel_rfl))))))))
def Q25 (x : S25) : Prop := ((x.f0.length ≤ maxLen ∧ ∀ y4 ∈ x.f0, (Lit.int .i64 y4).wf = true)) ∧ ((x.f1.length ≤ maxLen ∧ ∀ y4 ∈ x.f1, Q86 y4))
theorem opens25 : Opens Tryz.prog 25 k25 Q25 := Opens.struct (fun x : S25 => (x.f0, x.f1)) (fun p => (⟨p.1, p.2⟩ : S25)) (fun _ => rfl) Tryz.underlying25 (by kernel_rfl) (OpensF.cons rfl (Opens.slice Tryz.underlying22 (by kernel_rfl) (Opens.int Tryz.underlying2 (by kernel_rfl))) (OpensF.one rfl (Opens.slice Tryz.underlying23 (by kernel_rfl) opens86)))
end Go.Proofs.YtadaegehdcngdaaGreatDoor.XV
end

section
namespace Go.Proofs.YtadaegehdcngdaaGreatDoor.XV
open Go.RowKit Go.Proofs.YtadaegehdcngdaaGreatDoorW.PrintWords
def laws_FnExactNodeReport.Pure : Prop := ∀ (a0 : S25), ∀ (a1 : List Int), (Q25 a0) → ((a1.length ≤ maxLen ∧ ∀ y2 ∈ a1, (Lit.int .i64 y2).wf = true)) → ∃ k, laws_FnExactNodeReport.f k a0.f0 a0.f1 a1 = some true
end Go.Proofs.YtadaegehdcngdaaGreatDoor.XV
end
