/- The law FnExactDelayTo: part 8 of its texts, joined (wip/pack.py). -/
import Derived.Test.YthnhchpgpnaamaaKFnExactDelayToa
import Derived.Test.YthnhchpgpnaamaaKFnExactDelayTob
import Derived.Test.YthnhchpgpnaamaaKFnExactDelayToc
import Derived.Test.YthnhchpgpnaamaaKFnExactDelayTod
import Derived.Test.YthnhchpgpnaamaaKFnExactDelayToe
import Derived.Test.YthnhchpgpnaamaaKFnExactDelayTof
import Derived.Test.YthnhchpgpnaamaaKFnExactDelayTog
import Derived.Test.YthnhchpgpnaamaaKFnExactDelayToh

section
namespace Go.Proofs.Ythnhchpgpnaamaa.XG
open Go.RowKit Go.Proofs.YthnhchpgpnaamaaW.PrintWords Go.Proofs.YthnhchpgpnaamaaW.PrintLast Go.Proofs.YthnhchpgpnaamaaW.PrintMore
attribute [local go_sem] run_eql_slice_nil binOp_string_gtr' binOp_string_leq' binOp_string_geq' max2_int min2_int max_two min_two max_three min_three max_four min_four   -- for this text's walks alone
set_option linter.unusedVariables false
set_option linter.unusedSimpArgs false
def impl_DelayTo.l0 : Nat → List Int → Int → List Int → List (S56) → Int → Int → List Int → List (S59) → Option (Int × Int)
 | 0, _, _, _, _, _, _, _, _ => none
 | k + 1, x2, x3, x11, x37, x38, x39, x338000, x338001 => if x39 < x38 then (if 0 ≤ x39 then (if x39 < (x37.length : Int) then ((impl_way_along.f ((rd_T56 x37 x39).f0) ((rd_T56 x37 x39).f1) ((rd_T56 x37 x39).f2) x338000 x338001 x2).bind fun t353 => (if t353 ≤ 0 then (if 0 ≤ ((rd_T56 x37 x39).f0) then (if ((rd_T56 x37 x39).f0) < (x11.length : Int) then (impl_DelayTo.l0 k x2 x3 (x11.set (((rd_T56 x37 x39).f0) : Int).toNat (-1)) x37 x38 (wrap64 (x39 + 1)) x338000 x338001) else (none)) else (none)) else (if 0 ≤ ((rd_T56 x37 x39).f1) then (if ((rd_T56 x37 x39).f1) < (x11.length : Int) then (if (rd x11 ((rd_T56 x37 x39).f1)) < 0 then (if 0 ≤ ((rd_T56 x37 x39).f0) then (if ((rd_T56 x37 x39).f0) < (x11.length : Int) then (impl_DelayTo.l0 k x2 x3 (x11.set (((rd_T56 x37 x39).f0) : Int).toNat (-1)) x37 x38 (wrap64 (x39 + 1)) x338000 x338001) else (none)) else (none)) else (if 0 ≤ ((rd_T56 x37 x39).f2) then (if ((rd_T56 x37 x39).f2) < (x338001.length : Int) then ((impl_Pipe_delay.f ((rd_T59 x338001 ((rd_T56 x37 x39).f2)).f0) ((rd_T59 x338001 ((rd_T56 x37 x39).f2)).f1) ((rd_T59 x338001 ((rd_T56 x37 x39).f2)).f2) ((rd_T59 x338001 ((rd_T56 x37 x39).f2)).f3) ((rd_T59 x338001 ((rd_T56 x37 x39).f2)).f4) ((rd_T59 x338001 ((rd_T56 x37 x39).f2)).f5) t353).bind fun t359 => (if 0 ≤ ((rd_T56 x37 x39).f0) then (if ((rd_T56 x37 x39).f0) < (x11.length : Int) then (impl_DelayTo.l0 k x2 x3 (x11.set (((rd_T56 x37 x39).f0) : Int).toNat (wrap64 ((rd x11 ((rd_T56 x37 x39).f1)) + t359))) x37 x38 (wrap64 (x39 + 1)) x338000 x338001) else (none)) else (none))) else (none)) else (none))) else (none)) else (none)))) else (none)) else (none)) else (if 0 ≤ x3 then (if x3 < (x11.length : Int) then ((impl_orNotFound.f (rd x11 x3) (decide ((rd x11 x3) ≥ 0))).bind fun bt349 => (some (bt349.1, bt349.2))) else (none)) else (none))
def impl_DelayTo.f (k : Nat) (l0_0 : List Int) (l0_1 : List (S59)) (a1 : Int) (l2 : List Int) (a3 : Int) : Option (Int × Int) := (impl_ValidNetwork.f k l0_0 l0_1).bind fun t338 => (if t338 = true then ((impl_Network_hasNode.f l0_0 l0_1 a3).bind fun t339 => (if t339 = true then ((impl_flowsCode.f k l0_0 l0_1 a1 l2 0).bind fun t340 => (if t340 = 0 then (if 0 ≤ (l0_0.length : Int) then (if ((l0_0.length : Int) : Int).toNat ≤ 35184372088832 then ((impl_Network_ways.f k l0_0 l0_1 a1).bind fun t344 => (impl_DelayTo.l0 k l2 a3 (List.replicate ((l0_0.length : Int) : Int).toNat 0) t344 (t344.length : Int) 0 l0_0 l0_1)) else (none)) else (none)) else (some (0, t340)))) else (some (0, 2)))) else (some (0, 1)))
def impl_DelayTo.T15 : Bool × List (List Nat × List Nat) := (true, [([], []), ([], []), ([1], [1]), ([], []), ([], []), ([4], [4]), ([3, 5], [3, 5]), ([6], [6]), ([], []), ([8], [8]), ([], []), ([10], [10]), ([9, 11], [9, 11]), ([12], [12]), ([], []), ([13, 14], [13, 14]), ([7, 15], [7, 15]), ([0, 2, 0, 1, 2, 3, 4, 5, 6, 7, 8, 9, 10, 11, 12, 13, 14, 15, 16], [0, 2]), ([17, 16, 15, 0, 1, 2, 3, 4, 5, 6, 7, 8, 9, 10, 11, 12, 13, 14, 15, 16], [16, 17])])
def impl_DelayTo.B15 : List Nat := [0, 0, 2, 0, 0, 16, 56, 120, 0, 256, 0, 1024, 3840, 7936, 0, 32512, 65528, 131071, 262143]
theorem impl_DelayTo.tab15 : rtab .any (opsOf Try.f8 15) = impl_DelayTo.T15 := by kernel_rfl
theorem impl_DelayTo.bits15 : waitsOk impl_DelayTo.T15.2 impl_DelayTo.B15 = true := by kernel_rfl
def impl_DelayTo.T17 : Bool × List (List Nat × List Nat) := (true, [([], []), ([], []), ([0, 1], [0, 1]), ([2], [2]), ([], []), ([], []), ([4, 5], [4, 5]), ([6], [6]), ([7], [7]), ([3, 8], [3, 8]), ([9], [9]), ([9], [9]), ([10, 9, 0, 1, 2, 3, 4, 5, 6, 7, 8, 9, 10, 11], [10]), ([11, 12, 0, 1, 2, 3, 4, 5, 6, 7, 8, 9, 10, 11, 12], [11])])
def impl_DelayTo.B17 : List Nat := [0, 0, 3, 7, 0, 0, 48, 112, 240, 511, 1023, 1023, 4095, 8191]
theorem impl_DelayTo.tab17 : rtab .any (opsOf Try.f8 17) = impl_DelayTo.T17 := by kernel_rfl
theorem impl_DelayTo.bits17 : waitsOk impl_DelayTo.T17.2 impl_DelayTo.B17 = true := by kernel_rfl
set_option maxHeartbeats 8000000 in
set_option maxRecDepth 100000 in
theorem impl_DelayTo.calls (k : Nat) (A0_0 : Option Addr) (c0_0 : Nat) (l0_0 : List Int) (A0_1 : Option Addr) (c0_1 : Nat) (l0_1 : List (S59)) (a1 : Int) (A2 : Option Addr) (c2 : Nat) (l2 : List Int) (a3 : Int) (r1 : Int) (r2 : Int) (w : World) (hr0_0 : Kd.C (Kd.int .i64) w A0_0 l0_0.length l0_0) (hc0_0 : l0_0.length ≤ c0_0) (hr0_1 : Kd.C k59 w A0_1 l0_1.length l0_1) (hc0_1 : l0_1.length ≤ c0_1) (hr2 : Kd.C (Kd.int .i64) w A2 l2.length l2) (hc2 : l2.length ≤ c2) (h : impl_DelayTo.f k l0_0 l0_1 a1 l2 a3 = some (r1, r2)) :
  Calls Try.prog 8 #[.agg #[.slice A0_0 l0_0.length c0_0, .slice A0_1 l0_1.length c0_1], .int .i64 a1, .slice A2 l2.length c2, .int .i64 a3] w fun e w' => e = .returned (.tuple #[.int .i64 r1, .int .i64 r2]) ∧ Below w.heap.size w w' := by
 have hu31 := Try.underlying31
 have hu56 := Try.underlying56
 have hu59 := Try.underlying59
 have HR0_0 := Aside0.mk hr0_0
 have HC0_0 := Aside0.mk hc0_0
 clear hr0_0 hc0_0
 have HR0_1 := Aside0.mk hr0_1
 have HC0_1 := Aside0.mk hc0_1
 clear hr0_1 hc0_1
 have HR2 := Aside0.mk hr2
 have HC2 := Aside0.mk hc2
 clear hr2 hc2
 have HB := Aside0.mk (Below.refl w.heap.size w)
 have H : ((impl_ValidNetwork.f k l0_0 l0_1).bind fun t338 => (if t338 = true then ((impl_Network_hasNode.f l0_0 l0_1 a3).bind fun t339 => (if t339 = true then ((impl_flowsCode.f k l0_0 l0_1 a1 l2 0).bind fun t340 => (if t340 = 0 then (if 0 ≤ (l0_0.length : Int) then (if ((l0_0.length : Int) : Int).toNat ≤ 35184372088832 then ((impl_Network_ways.f k l0_0 l0_1 a1).bind fun t344 => (impl_DelayTo.l0 k l2 a3 (List.replicate ((l0_0.length : Int) : Int).toNat 0) t344 (t344.length : Int) 0 l0_0 l0_1)) else (none)) else (none)) else (some (0, t340)))) else (some (0, 2)))) else (some (0, 1)))) = some (r1, r2) := h
 clear h
 replace H := Option.bind_eq_some_iff.mp H
 obtain ⟨t338, A50, H⟩ := H
 replace H : (if t338 = true then ((impl_Network_hasNode.f l0_0 l0_1 a3).bind fun t339 => (if t339 = true then ((impl_flowsCode.f k l0_0 l0_1 a1 l2 0).bind fun t340 => (if t340 = 0 then (if 0 ≤ (l0_0.length : Int) then (if ((l0_0.length : Int) : Int).toNat ≤ 35184372088832 then ((impl_Network_ways.f k l0_0 l0_1 a1).bind fun t344 => (impl_DelayTo.l0 k l2 a3 (List.replicate ((l0_0.length : Int) : Int).toNat 0) t344 (t344.length : Int) 0 l0_0 l0_1)) else (none)) else (none)) else (some (0, t340)))) else (some (0, 2)))) else (some (0, 1))) = some (r1, r2) := H
 have A5 := Aside0.mk A50
 clear A50
 by_cases c6 : t338 = true
 ·subst c6
  have H1 : ((impl_Network_hasNode.f l0_0 l0_1 a3).bind fun t339 => (if t339 = true then ((impl_flowsCode.f k l0_0 l0_1 a1 l2 0).bind fun t340 => (if t340 = 0 then (if 0 ≤ (l0_0.length : Int) then (if ((l0_0.length : Int) : Int).toNat ≤ 35184372088832 then ((impl_Network_ways.f k l0_0 l0_1 a1).bind fun t344 => (impl_DelayTo.l0 k l2 a3 (List.replicate ((l0_0.length : Int) : Int).toNat 0) t344 (t344.length : Int) 0 l0_0 l0_1)) else (none)) else (none)) else (some (0, t340)))) else (some (0, 2)))) = some (r1, r2) := by rw [if_pos rfl] at H; exact H
  clear H
  have H := H1
  clear H1
  replace H := Option.bind_eq_some_iff.mp H
  obtain ⟨t339, A70, H⟩ := H
  replace H : (if t339 = true then ((impl_flowsCode.f k l0_0 l0_1 a1 l2 0).bind fun t340 => (if t340 = 0 then (if 0 ≤ (l0_0.length : Int) then (if ((l0_0.length : Int) : Int).toNat ≤ 35184372088832 then ((impl_Network_ways.f k l0_0 l0_1 a1).bind fun t344 => (impl_DelayTo.l0 k l2 a3 (List.replicate ((l0_0.length : Int) : Int).toNat 0) t344 (t344.length : Int) 0 l0_0 l0_1)) else (none)) else (none)) else (some (0, t340)))) else (some (0, 2))) = some (r1, r2) := H
  have A7 := Aside0.mk A70
  clear A70
  by_cases c8 : t339 = true
  ·subst c8
   have H1 : ((impl_flowsCode.f k l0_0 l0_1 a1 l2 0).bind fun t340 => (if t340 = 0 then (if 0 ≤ (l0_0.length : Int) then (if ((l0_0.length : Int) : Int).toNat ≤ 35184372088832 then ((impl_Network_ways.f k l0_0 l0_1 a1).bind fun t344 => (impl_DelayTo.l0 k l2 a3 (List.replicate ((l0_0.length : Int) : Int).toNat 0) t344 (t344.length : Int) 0 l0_0 l0_1)) else (none)) else (none)) else (some (0, t340)))) = some (r1, r2) := by rw [if_pos rfl] at H; exact H
   clear H
   have H := H1
   clear H1
   replace H := Option.bind_eq_some_iff.mp H
   obtain ⟨t340, A90, H⟩ := H
   replace H : (if t340 = 0 then (if 0 ≤ (l0_0.length : Int) then (if ((l0_0.length : Int) : Int).toNat ≤ 35184372088832 then ((impl_Network_ways.f k l0_0 l0_1 a1).bind fun t344 => (impl_DelayTo.l0 k l2 a3 (List.replicate ((l0_0.length : Int) : Int).toNat 0) t344 (t344.length : Int) 0 l0_0 l0_1)) else (none)) else (none)) else (some (0, t340))) = some (r1, r2) := H
   have A9 := Aside0.mk A90
   clear A90
   by_cases c10 : t340 = 0
   ·rw [if_pos c10] at H
    have c10b0 : (t340 == 0) = true := beq_iff_eq.mpr c10
    have c10b1 : (t340 != 0) = false := bne_eq_false_iff_eq.mpr c10
    clear c10
    by_cases c11 : 0 ≤ (l0_0.length : Int)
    ·rw [if_pos c11] at H
     have c11b0 := eq_true c11
     have c11b1 : decide (0 ≤ (l0_0.length : Int)) = true := decide_eq_true c11
     clear c11
     by_cases c12 : ((l0_0.length : Int) : Int).toNat ≤ 35184372088832
     ·rw [if_pos c12] at H
      have c12b0 := eq_true c12
      have c12b1 : decide (((l0_0.length : Int) : Int).toNat ≤ 35184372088832) = true := decide_eq_true c12
      clear c12
      obtain ⟨y341, hy341⟩ : ∃ y_ : List Int, y_ = (List.replicate ((l0_0.length : Int) : Int).toNat 0) := ⟨_, rfl⟩
      replace H : ((impl_Network_ways.f k l0_0 l0_1 a1).bind fun t344 => (impl_DelayTo.l0 k l2 a3 y341 t344 (t344.length : Int) 0 l0_0 l0_1)) = some (r1, r2) := by first | (rw [hy341]; with_reducible exact H) | (have H2_ := (Option.bind_some _ _).symm.trans H; rw [hy341]; with_reducible exact H2_) | (have H2_ := (Option.bind_some _ _).symm.trans H; with_reducible exact H2_) | with_reducible exact H | (rw [hy341]; exact H) | exact H
      have Ny341 := Aside0.mk hy341
      clear hy341
      replace H := Option.bind_eq_some_iff.mp H
      obtain ⟨t344, A130, H⟩ := H
      replace H : (impl_DelayTo.l0 k l2 a3 y341 t344 (t344.length : Int) 0 l0_0 l0_1) = some (r1, r2) := H
      have A13 := Aside0.mk A130
      clear A130
      have H' := Aside0.mk H
      clear H
      go_enter Try.func8, Try.ntmps8
      go_wp2_with (first | ((with_reducible refine gate_dst (N := 4) rfl ?_); refine boxZ 4 #[.slice A0_0 l0_0.length c0_0, .slice A0_1 l0_1.length c0_1] 31 rfl rfl ?_; intro gb337 hg w14 hbox hb; have n0_ := Aside0.mk (below_step bZ hb); have n1_ := Aside0.mk (hbox); have n2_ := Aside0.mk ((by rw [hg]; exact bsZ : w.heap.size ≤ gb337)); have n3_ := Aside0.mk ((by rw [hg]; exact bsZ : w.heap.size ≤ gb337)); clear HB; have HB := n0_; have BK337 := n1_; have GW337 := n2_; have GE337 := n3_; clear n0_ n1_ n2_ n3_; clear hb hbox hg; have hcz15_0 := bc0 BK337.out; have hcz15_1 := bc1 BK337.out; have hfz15_0 := blk_frozen BK337.out 0; have hfz15_1 := blk_frozen BK337.out 1) | ((with_reducible refine gate_callee (f := 22) rfl ?_); refine goesL_ (some 17) rfl rfl Try.func22 (by kernel_rfl) rfl #[.agg #[.slice A0_0 l0_0.length c0_0, .slice A0_1 l0_1.length c0_1]] rfl gZ ?_; (with_reducible refine (impl_ValidNetwork.calls k _ _ l0_0 _ _ l0_1 true _ ?side1 ?side2 ?side3 ?side4 A5.out).mono ?_); (case side1 => repeat (first | exact (Kd.C_below HR0_0.out HB.out) | (with_reducible refine Kd.C_alloc ?_ _) | (with_reducible refine Kd.C_drewN ?_ _) | (with_reducible refine Kd.C_drew ?_))); (case side2 => exact HC0_0.out); (case side3 => repeat (first | exact (Kd.C_below HR0_1.out HB.out) | (with_reducible refine Kd.C_alloc ?_ _) | (with_reducible refine Kd.C_drewN ?_ _) | (with_reducible refine Kd.C_drew ?_))); (case side4 => exact HC0_1.out); rintro e w16 ⟨rfl, hb⟩; refine ⟨_, rfl, ?_⟩; have n0_ := Aside0.mk (blk_below (g := gb337) (o := .cells #[.slice A0_0 l0_0.length c0_0, .slice A0_1 l0_1.length c0_1] 31 (0, 0)) (kZ BK337.out) hb); have n1_ := Aside0.mk (below_step bZ hb); clear BK337; clear HB; have BK337 := n0_; have HB := n1_; clear n0_ n1_; (try clear hb); (try clear hb2); (try clear hk); (try clear hi); have hcz17_0 := bc0 BK337.out; have hcz17_1 := bc1 BK337.out; have hfz17_0 := blk_frozen BK337.out 0; have hfz17_1 := blk_frozen BK337.out 1) | ((with_reducible refine gate_callee (f := 23) rfl ?_); refine goesL_ (some 22) rfl rfl Try.func23 (by kernel_rfl) rfl #[.agg #[.slice A0_0 l0_0.length c0_0, .slice A0_1 l0_1.length c0_1], .int .i64 a3] rfl gZ ?_; (with_reducible refine (impl_Network_hasNode.calls _ _ l0_0 _ _ l0_1 a3 true _ ?side1 ?side2 ?side3 ?side4 A7.out).mono ?_); (case side1 => repeat (first | exact (Kd.C_below HR0_0.out HB.out) | (with_reducible refine Kd.C_alloc ?_ _) | (with_reducible refine Kd.C_drewN ?_ _) | (with_reducible refine Kd.C_drew ?_))); (case side2 => exact HC0_0.out); (case side3 => repeat (first | exact (Kd.C_below HR0_1.out HB.out) | (with_reducible refine Kd.C_alloc ?_ _) | (with_reducible refine Kd.C_drewN ?_ _) | (with_reducible refine Kd.C_drew ?_))); (case side4 => exact HC0_1.out); rintro e w18 ⟨rfl, hb⟩; refine ⟨_, rfl, ?_⟩; have n0_ := Aside0.mk (blk_below (g := gb337) (o := .cells #[.slice A0_0 l0_0.length c0_0, .slice A0_1 l0_1.length c0_1] 31 (0, 0)) (kZ BK337.out) hb); have n1_ := Aside0.mk (below_step bZ hb); clear BK337; clear HB; have BK337 := n0_; have HB := n1_; clear n0_ n1_; (try clear hb); (try clear hb2); (try clear hk); (try clear hi); have hcz19_0 := bc0 BK337.out; have hcz19_1 := bc1 BK337.out; have hfz19_0 := blk_frozen BK337.out 0; have hfz19_1 := blk_frozen BK337.out 1) | ((with_reducible refine gate_callee (f := 24) rfl ?_); refine goesL_ (some 27) rfl rfl Try.func24 (by kernel_rfl) rfl #[.agg #[.slice A0_0 l0_0.length c0_0, .slice A0_1 l0_1.length c0_1], .int .i64 a1, .slice A2 l2.length c2, .int .i64 0] rfl gZ ?_; (with_reducible refine (impl_flowsCode.calls k _ _ l0_0 _ _ l0_1 a1 _ _ l2 0 t340 _ ?side1 ?side2 ?side3 ?side4 ?side5 ?side6 A9.out).mono ?_); (case side1 => repeat (first | exact (Kd.C_below HR0_0.out HB.out) | (with_reducible refine Kd.C_alloc ?_ _) | (with_reducible refine Kd.C_drewN ?_ _) | (with_reducible refine Kd.C_drew ?_))); (case side2 => exact HC0_0.out); (case side3 => repeat (first | exact (Kd.C_below HR0_1.out HB.out) | (with_reducible refine Kd.C_alloc ?_ _) | (with_reducible refine Kd.C_drewN ?_ _) | (with_reducible refine Kd.C_drew ?_))); (case side4 => exact HC0_1.out); (case side5 => repeat (first | exact (Kd.C_below HR2.out HB.out) | (with_reducible refine Kd.C_alloc ?_ _) | (with_reducible refine Kd.C_drewN ?_ _) | (with_reducible refine Kd.C_drew ?_))); (case side6 => exact HC2.out); rintro e w20 ⟨rfl, hb⟩; refine ⟨_, rfl, ?_⟩; have n0_ := Aside0.mk (blk_below (g := gb337) (o := .cells #[.slice A0_0 l0_0.length c0_0, .slice A0_1 l0_1.length c0_1] 31 (0, 0)) (kZ BK337.out) hb); have n1_ := Aside0.mk (below_step bZ hb); clear BK337; clear HB; have BK337 := n0_; have HB := n1_; clear n0_ n1_; (try clear hb); (try clear hb2); (try clear hk); (try clear hi); have hcz21_0 := bc0 BK337.out; have hcz21_1 := bc1 BK337.out; have hfz21_0 := blk_frozen BK337.out 0; have hfz21_1 := blk_frozen BK337.out 1) | ((with_reducible refine gate_dst (N := 34) rfl ?_); refine Kd.R_make (Kd.int .i64) _ 2 rfl (N := 34) rfl 22 _ _ rfl (l0_0.length : Int) rfl rfl Try.underlying22 (.int .i64 0) 8 info2 rfl (by decide) (by omega) 0 (ok := fun _ => True) (okp := fun _ => True) rfl (fun _ hk => hk) trivial oZ (Nat.le_trans (Nat.mul_le_mul_right _ (oZ : (l0_0.length : Int).toNat ≤ 35184372088832)) (by omega)) (Below.refl _ _) (Nat.le_refl _) ?_; intro v342 w22 ho23 hb hg_ hnew_; clear hg_ hnew_; (first | rw [← Ny341.out] at ho23 | (simp only [Int.reduceToNat] at ho23; rw [← Ny341.out] at ho23)); have n0_ := Aside0.mk (Kd.R_lower ho23 bsZ); have n1_ := Aside0.mk (blk_below (g := gb337) (o := .cells #[.slice A0_0 l0_0.length c0_0, .slice A0_1 l0_1.length c0_1] 31 (0, 0)) (kZ BK337.out) hb); have n2_ := Aside0.mk (below_step bZ hb); clear BK337; clear HB; have HO343 := n0_; have BK337 := n1_; have HB := n2_; clear n0_ n1_ n2_; clear hb ho23; have hcz24_0 := bc0 BK337.out; have hcz24_1 := bc1 BK337.out; have hfz24_0 := blk_frozen BK337.out 0; have hfz24_1 := blk_frozen BK337.out 1) | ((with_reducible refine gate_callee (f := 25) rfl ?_); refine goesL_ (some 37) rfl rfl Try.func25 (by kernel_rfl) rfl #[.agg #[.slice A0_0 l0_0.length c0_0, .slice A0_1 l0_1.length c0_1], .int .i64 a1] rfl gZ ?_; (with_reducible refine (impl_Network_ways.calls k _ _ l0_0 _ _ l0_1 a1 t344 _ ?side1 ?side2 ?side3 ?side4 A13.out).mono ?_); (case side1 => repeat (first | exact (Kd.C_below HR0_0.out HB.out) | (with_reducible refine Kd.C_alloc ?_ _) | (with_reducible refine Kd.C_drewN ?_ _) | (with_reducible refine Kd.C_drew ?_))); (case side2 => exact HC0_0.out); (case side3 => repeat (first | exact (Kd.C_below HR0_1.out HB.out) | (with_reducible refine Kd.C_alloc ?_ _) | (with_reducible refine Kd.C_drewN ?_ _) | (with_reducible refine Kd.C_drew ?_))); (case side4 => exact HC0_1.out); rintro e w25 ⟨v345, rfl, ho0, hb⟩; refine ⟨_, rfl, ?_⟩; have n0_ := Aside0.mk (Kd.R_below (Kd.rZ HO343.out) hb); have n1_ := Aside0.mk (Kd.R_lower ho0 bsZ); have n2_ := Aside0.mk (blk_below (g := gb337) (o := .cells #[.slice A0_0 l0_0.length c0_0, .slice A0_1 l0_1.length c0_1] 31 (0, 0)) (kZ BK337.out) hb); have n3_ := Aside0.mk (below_step bZ hb); clear HO343; clear BK337; clear HB; have HO343 := n0_; have HO346 := n1_; have BK337 := n2_; have HB := n3_; clear n0_ n1_ n2_ n3_; (try clear hb); (try clear hb2); (try clear hk); (try clear hi); (try clear ho0); obtain ⟨Ao26, co26, eo26⟩ := Kd.R_slice HO346.out; subst eo26))
      go_loopg [39] k (fun kq v39 w' => ∃ (x11_1 : List Int) (x39_1 : Int), v39 = .int .i64 x39_1 ∧ Aside0 (impl_DelayTo.l0 kq l2 a3 x11_1 t344 (t344.length : Int) x39_1 l0_0 l0_1 = some (r1, r2)) ∧ Aside0 (kq ≤ k) ∧ Aside0 (Kd.R (Kd.int .i64) 2 w' w.heap.size (fun _ => True) v342 x11_1) ∧ Aside0 (Kd.R k56 56 w' w.heap.size (fun _ => True) (.slice Ao26 t344.length co26) t344) ∧ Aside0 (w'.heap[gb337]? = some (.cells #[(.slice A0_0 l0_0.length c0_0), (.slice A0_1 l0_1.length c0_1)] 31 (0, 0))) ∧ Aside0 (Below w.heap.size w w'))
      case atStart => exact ⟨(y341), (0), sZ, H', ⟨Nat.le_refl _⟩, ⟨Kd.rZ HO343.out⟩, ⟨Kd.rZ HO346.out⟩, ⟨kZ BK337.out⟩, ⟨bZ⟩⟩
      case round =>
       clear H'; (try clear c1); (try clear c2); (try clear p2); (try clear c6); (try clear c8); (try clear c10); (try clear c10b0); (try clear c10b1); (try clear c11); (try clear c11b0); (try clear c11b1); (try clear c12); (try clear c12b0); (try clear c12b1); (try clear c22); (try clear c23); (try clear c24); (try clear c25); (try clear hcz15_0); (try clear hcz15_1); (try clear hcz17_0); (try clear hcz17_1); (try clear hcz19_0); (try clear hcz19_1); (try clear hcz21_0); (try clear hcz21_1); (try clear hcz24_0); (try clear hcz24_1); (try clear hfz15_0); (try clear hfz15_1); (try clear hfz17_0); (try clear hfz17_1); (try clear hfz19_0); (try clear hfz19_1); (try clear hfz21_0); (try clear hfz21_1); (try clear hfz24_0); (try clear hfz24_1)
       obtain ⟨x11_1, x39_1, rfl, HA, HK1, HO_11, HO_37, BK337, HB⟩ := hrel
       cases gk with
       | zero => exact absurd HA.out (by simp [impl_DelayTo.l0])
       | succ k1 =>
        have H := HA.out
        clear HA
        simp only [impl_DelayTo.l0] at H
        by_cases c27 : x39_1 < (t344.length : Int)
        ·rw [if_pos c27] at H
         have c27b0 : decide (x39_1 < (t344.length : Int)) = true := decide_eq_true c27
         clear c27
         by_cases c28 : 0 ≤ x39_1
         ·rw [if_pos c28] at H
          have c28b0 : decide (0 ≤ x39_1) = true := decide_eq_true c28
          clear c28
          by_cases c29 : x39_1 < (t344.length : Int)
          ·rw [if_pos c29] at H
           have c29b0 : decide (x39_1 < (t344.length : Int)) = true := decide_eq_true c29
           clear c29
           replace H := Option.bind_eq_some_iff.mp H
           obtain ⟨t353, A300, H⟩ := H
           replace H : (if t353 ≤ 0 then (if 0 ≤ ((rd_T56 t344 x39_1).f0) then (if ((rd_T56 t344 x39_1).f0) < (x11_1.length : Int) then (impl_DelayTo.l0 k1 l2 a3 (x11_1.set (((rd_T56 t344 x39_1).f0) : Int).toNat (-1)) t344 (t344.length : Int) (wrap64 (x39_1 + 1)) l0_0 l0_1) else (none)) else (none)) else (if 0 ≤ ((rd_T56 t344 x39_1).f1) then (if ((rd_T56 t344 x39_1).f1) < (x11_1.length : Int) then (if (rd x11_1 ((rd_T56 t344 x39_1).f1)) < 0 then (if 0 ≤ ((rd_T56 t344 x39_1).f0) then (if ((rd_T56 t344 x39_1).f0) < (x11_1.length : Int) then (impl_DelayTo.l0 k1 l2 a3 (x11_1.set (((rd_T56 t344 x39_1).f0) : Int).toNat (-1)) t344 (t344.length : Int) (wrap64 (x39_1 + 1)) l0_0 l0_1) else (none)) else (none)) else (if 0 ≤ ((rd_T56 t344 x39_1).f2) then (if ((rd_T56 t344 x39_1).f2) < (l0_1.length : Int) then ((impl_Pipe_delay.f ((rd_T59 l0_1 ((rd_T56 t344 x39_1).f2)).f0) ((rd_T59 l0_1 ((rd_T56 t344 x39_1).f2)).f1) ((rd_T59 l0_1 ((rd_T56 t344 x39_1).f2)).f2) ((rd_T59 l0_1 ((rd_T56 t344 x39_1).f2)).f3) ((rd_T59 l0_1 ((rd_T56 t344 x39_1).f2)).f4) ((rd_T59 l0_1 ((rd_T56 t344 x39_1).f2)).f5) t353).bind fun t359 => (if 0 ≤ ((rd_T56 t344 x39_1).f0) then (if ((rd_T56 t344 x39_1).f0) < (x11_1.length : Int) then (impl_DelayTo.l0 k1 l2 a3 (x11_1.set (((rd_T56 t344 x39_1).f0) : Int).toNat (wrap64 ((rd x11_1 ((rd_T56 t344 x39_1).f1)) + t359))) t344 (t344.length : Int) (wrap64 (x39_1 + 1)) l0_0 l0_1) else (none)) else (none))) else (none)) else (none))) else (none)) else (none))) = some (r1, r2) := H
           have A30 := Aside0.mk A300
           clear A300
           by_cases c31 : t353 ≤ 0
           ·rw [if_pos c31] at H
            have c31b0 : decide (t353 ≤ 0) = true := decide_eq_true c31
            clear c31
            by_cases c32 : 0 ≤ ((rd_T56 t344 x39_1).f0)
            ·rw [if_pos c32] at H
             have c32b0 : decide (0 ≤ ((rd_T56 t344 x39_1).f0)) = true := decide_eq_true c32
             clear c32
             by_cases c33 : ((rd_T56 t344 x39_1).f0) < (x11_1.length : Int)
             ·rw [if_pos c33] at H
              have c33b0 : decide (((rd_T56 t344 x39_1).f0) < (x11_1.length : Int)) = true := decide_eq_true c33
              clear c33
              obtain ⟨y354, hy354⟩ : ∃ y_ : List Int, y_ = (x11_1.set (((rd_T56 t344 x39_1).f0) : Int).toNat (-1)) := ⟨_, rfl⟩
              replace H : (impl_DelayTo.l0 k1 l2 a3 y354 t344 (t344.length : Int) (wrap64 (x39_1 + 1)) l0_0 l0_1) = some (r1, r2) := by first | (rw [hy354]; with_reducible exact H) | (have H2_ := (Option.bind_some _ _).symm.trans H; rw [hy354]; with_reducible exact H2_) | (have H2_ := (Option.bind_some _ _).symm.trans H; with_reducible exact H2_) | with_reducible exact H | (rw [hy354]; exact H) | exact H
              have Ny354 := Aside0.mk hy354
              clear hy354
              have H' := Aside0.mk H
              clear H
              have p351 : 0 ≤ (x39_1 : Int) := oZ
              have q351 : x39_1 < (t344.length : Int) := oZ
              obtain ⟨ad351, e351, hx351_0, hx351_1, hx351_2⟩ := at_T56 (Kd.R_reads' HO_37.out).2.2 x39_1 p351 q351
              cases e351
              replace p351 := eq_true p351
              replace q351 := eq_true q351
              go_wp2_with (first | ((with_reducible refine gate_dst (N := 13) rfl ?_); refine boxZ 13 #[.int .i64 0, .int .i64 0, .int .i64 0] 56 rfl rfl ?_; intro gb352 hg w35 hbox hb; have n0_ := Aside0.mk (Kd.R_below (Kd.rZ HO_11.out) hb); have n1_ := Aside0.mk (Kd.R_below (Kd.R_elderB (Kd.rZ HO_37.out) gb352 (Nat.le_of_eq hg.symm)) hb); have n2_ := Aside0.mk (blk_below (g := gb337) (o := .cells #[.slice A0_0 l0_0.length c0_0, .slice A0_1 l0_1.length c0_1] 31 (0, 0)) (kZ BK337.out) hb); have n3_ := Aside0.mk (below_step bZ hb); have n4_ := Aside0.mk (hbox); have n5_ := Aside0.mk ((by rw [hg]; exact bsZ : w.heap.size ≤ gb352)); have n6_ := Aside0.mk ((by rw [hg]; exact bsZ : w.heap.size ≤ gb352)); have n7_ := Aside0.mk ((by rw [hg]; exact Nat.ne_of_lt (blk_lt (g := gb337) (o := .cells #[.slice A0_0 l0_0.length c0_0, .slice A0_1 l0_1.length c0_1] 31 (0, 0)) (kZ BK337.out)) : gb337 ≠ gb352)); have n8_ := Aside0.mk ((by rw [hg]; exact Nat.ne_of_gt (blk_lt (g := gb337) (o := .cells #[.slice A0_0 l0_0.length c0_0, .slice A0_1 l0_1.length c0_1] 31 (0, 0)) (kZ BK337.out)) : gb352 ≠ gb337)); clear HO_11; clear HO_37; clear BK337; clear HB; have HO_11 := n0_; have HO_37 := n1_; have BK337 := n2_; have HB := n3_; have BK352 := n4_; have GW352 := n5_; have GE352 := n6_; have NB337_352 := n7_; have NB352_337 := n8_; clear n0_ n1_ n2_ n3_ n4_ n5_ n6_ n7_ n8_; clear hb hbox hg; have hnb36 := NB352_337.out; have hnc36 := NB337_352.out; have hcz37_0 := bc0 BK352.out; have hcz37_1 := bc1 BK352.out; have hcz37_2 := bc2 BK352.out; have hfz37_0 := blk_frozen BK352.out 0; have hfz37_1 := blk_frozen BK352.out 1; have hfz37_2 := blk_frozen BK352.out 2; have hcz38_0 := bc0 BK337.out; have hcz38_1 := bc1 BK337.out; have hfz38_0 := blk_frozen BK337.out 0; have hfz38_1 := blk_frozen BK337.out 1) | ((with_reducible refine gate_callee (f := 26) rfl ?_); refine goesL_ (some 46) rfl rfl Try.func26 (by kernel_rfl) rfl #[.agg #[.int .i64 ((rd_T56 t344 x39_1).f0), .int .i64 ((rd_T56 t344 x39_1).f1), .int .i64 ((rd_T56 t344 x39_1).f2)], .agg #[.slice A0_0 l0_0.length c0_0, .slice A0_1 l0_1.length c0_1], .slice A2 l2.length c2] rfl gZ ?_; (with_reducible refine (impl_way_along.calls ((rd_T56 t344 x39_1).f0) ((rd_T56 t344 x39_1).f1) ((rd_T56 t344 x39_1).f2) _ _ l0_0 _ _ l0_1 _ _ l2 t353 _ ?side1 ?side2 ?side3 ?side4 ?side5 ?side6 A30.out).mono ?_); (case side1 => exact Kd.C_below HR0_0.out bZ); (case side2 => exact HC0_0.out); (case side3 => exact Kd.C_below HR0_1.out bZ); (case side4 => exact HC0_1.out); (case side5 => exact Kd.C_below HR2.out bZ); (case side6 => exact HC2.out); rintro e w39 ⟨rfl, hb⟩; refine ⟨_, rfl, ?_⟩; have n0_ := Aside0.mk (Kd.R_below (Kd.rZ ((Kd.R_mono (Kd.R_far (p := ⟨gb352, 2, none⟩) (Kd.R_far (p := ⟨gb352, 1, none⟩) (Kd.R_far (p := ⟨gb352, 0, none⟩) (Kd.R_types HO_11.out BK352.out (by decide)) (fun _ hk => hk.2) (.int .i64 ((rd_T56 t344 x39_1).f0))) (fun _ hk => hk.2) (.int .i64 ((rd_T56 t344 x39_1).f1))) (fun _ hk => hk.2) (.int .i64 ((rd_T56 t344 x39_1).f2))) (fun _ h_ => h_.1)))) hb); have n1_ := Aside0.mk (Kd.R_below (Kd.rZ ((Kd.R_mono (Kd.R_far (p := ⟨gb352, 2, none⟩) (Kd.R_far (p := ⟨gb352, 1, none⟩) (Kd.R_far (p := ⟨gb352, 0, none⟩) (Kd.R_mono HO_37.out (fun k_ hk => (⟨hk, hk.2⟩ : _ ∧ k_ ≠ gb352))) (fun _ hk => hk.2) (.int .i64 ((rd_T56 t344 x39_1).f0))) (fun _ hk => hk.2) (.int .i64 ((rd_T56 t344 x39_1).f1))) (fun _ hk => hk.2) (.int .i64 ((rd_T56 t344 x39_1).f2))) (fun _ h_ => h_.1)))) hb); have n2_ := Aside0.mk (blk_below (g := gb337) (o := .cells #[.slice A0_0 l0_0.length c0_0, .slice A0_1 l0_1.length c0_1] 31 (0, 0)) (by (with_reducible repeat (first | refine blk_drewN ?_ _ | refine blk_drew ?_ | refine blk_alloc ?_ _)); refine blk_far ?_ NB337_352.out _; (with_reducible repeat (first | refine blk_drewN ?_ _ | refine blk_drew ?_ | refine blk_alloc ?_ _)); refine blk_far ?_ NB337_352.out _; (with_reducible repeat (first | refine blk_drewN ?_ _ | refine blk_drew ?_ | refine blk_alloc ?_ _)); refine blk_far ?_ NB337_352.out _; (with_reducible repeat (first | refine blk_drewN ?_ _ | refine blk_drew ?_ | refine blk_alloc ?_ _)); exact BK337.out) hb); have n3_ := Aside0.mk (blk_below (g := gb352) (o := .cells #[.int .i64 ((rd_T56 t344 x39_1).f0), .int .i64 ((rd_T56 t344 x39_1).f1), .int .i64 ((rd_T56 t344 x39_1).f2)] 56 (0, 0)) (by (with_reducible repeat (first | refine blk_drewN ?_ _ | refine blk_drew ?_ | refine blk_alloc ?_ _)); refine blk_put (cs := #[.int .i64 ((rd_T56 t344 x39_1).f0), .int .i64 ((rd_T56 t344 x39_1).f1), .int .i64 0]) ?_ 2 _ rfl; (with_reducible repeat (first | refine blk_drewN ?_ _ | refine blk_drew ?_ | refine blk_alloc ?_ _)); refine blk_put (cs := #[.int .i64 ((rd_T56 t344 x39_1).f0), .int .i64 0, .int .i64 0]) ?_ 1 _ rfl; (with_reducible repeat (first | refine blk_drewN ?_ _ | refine blk_drew ?_ | refine blk_alloc ?_ _)); refine blk_put (cs := #[.int .i64 0, .int .i64 0, .int .i64 0]) ?_ 0 _ rfl; (with_reducible repeat (first | refine blk_drewN ?_ _ | refine blk_drew ?_ | refine blk_alloc ?_ _)); exact BK352.out) hb); have n4_ := Aside0.mk (below_step bZ hb); clear HO_11; clear HO_37; clear BK337; clear BK352; clear HB; have HO_11 := n0_; have HO_37 := n1_; have BK337 := n2_; have BK352 := n3_; have HB := n4_; clear n0_ n1_ n2_ n3_ n4_; (try clear hb); (try clear hb2); (try clear hk); (try clear hi); have hcz40_0 := bc0 BK352.out; have hcz40_1 := bc1 BK352.out; have hcz40_2 := bc2 BK352.out; have hfz40_0 := blk_frozen BK352.out 0; have hfz40_1 := blk_frozen BK352.out 1; have hfz40_2 := blk_frozen BK352.out 2; have p34 : 0 ≤ (((rd_T56 t344 x39_1).f0) : Int) := oZ; have q34 : (((rd_T56 t344 x39_1).f0) : Int) < ((x11_1.length : Int) : Int) := oZ; obtain ⟨go34, co34, eo34, gb34, gl34, cl34, HG34⟩ := Kd.R_form HO_11.out (by omega); (first | cases eo34 | (injection eo34 with ea_ en_ ec_; (first | subst ea_ | (injection ea_ with ea_; subst ea_)); subst ec_; clear en_)); have GB34 := Aside0.mk gb34; have GG34 := Aside0.mk HG34; clear gb34 gl34 HG34; obtain ⟨hx34_0, hf34_0⟩ := Kd.R_celln 0 HO_11.out (((rd_T56 t344 x39_1).f0) : Int) p34 q34; replace p34 := eq_true p34; replace q34 := eq_true q34; obtain ⟨hy41_, hz41_⟩ := Kd.R_celln 0 HO_11.out (((rd_T56 t344 x39_1).f0) : Int) oZ oZ; have HP41 := Kd.R_putg HO_11.out (((rd_T56 t344 x39_1).f0) : Int) (-1)) | ((with_reducible refine gate_store (t := 2) (p := 60) rfl ?_); refine store_event (t := 2) (p := 60) (v := ?vo_w42) (w1 := (w39.setCell ⟨go34, (((rd_T56 t344 x39_1).f0) : Int).toNat, none⟩ (.int .i64 (-1)))) ?hg ?ho ?hn ?hr ?_; (case ho => rfl); (case hg => rfl); (case hn => rfl); (case hr => first | (go_simp; done) | (go_simp; rfl)); intro w42 hw; have hg : w39.grownBy w42 (some go34) := (by rw [hw]; exact HP41.2); have hp_ : Kd.R (Kd.int .i64) 2 w42 w.heap.size (fun _ => True) (.slice (some ⟨go34, 0, none⟩) x11_1.length co34) y354 := (by rw [hw, Ny354.out]; exact HP41.1); clear HP41; have n0_ := Aside0.mk (hp_); have n1_ := Aside0.mk (Kd.R_over' (v := (.slice (some ⟨go34, 0, none⟩) x11_1.length co34)) (Kd.rZ HO_37.out) (Kd.R_typed HO_11.out) (by decide) hg); have n2_ := Aside0.mk (blk_grown (g := gb337) (o := .cells #[.slice A0_0 l0_0.length c0_0, .slice A0_1 l0_1.length c0_1] 31 (0, 0)) (kZ BK337.out) hg (Kd.R_ne HO_11.out BK337.out (by decide))); have n3_ := Aside0.mk (blk_grown (g := gb352) (o := .cells #[.int .i64 ((rd_T56 t344 x39_1).f0), .int .i64 ((rd_T56 t344 x39_1).f1), .int .i64 ((rd_T56 t344 x39_1).f2)] 56 (0, 0)) (kZ BK352.out) hg (Kd.R_ne HO_11.out BK352.out (by decide))); have n4_ := Aside0.mk ((by rw [hw]; exact below_set (HB.out) GB34.out : Below w.heap.size w w42)); clear HO_11; clear HO_37; clear BK337; clear BK352; clear HB; have HO_11 := n0_; have HO_37 := n1_; have BK337 := n2_; have BK352 := n3_; have HB := n4_; clear n0_ n1_ n2_ n3_ n4_; clear hg hw hp_))
              go_roundg k1
              case measure => have := HK1.out; omega
              case rel => exact ⟨(y354), (wrap64 (x39_1 + 1)), sZ, H', ⟨by have := HK1.out; omega⟩, ⟨Kd.rZ HO_11.out⟩, ⟨Kd.rZ (Kd.R_mono HO_37.out (fun _ hk => trivial))⟩, ⟨kZ BK337.out⟩, ⟨bZ⟩⟩
             ·rw [if_neg c33] at H
              exact absurd H (by simp)
            ·rw [if_neg c32] at H
             exact absurd H (by simp)
           ·rw [if_neg c31] at H
            have c31b0 : decide (t353 ≤ 0) = false := decide_eq_false c31
            clear c31
            by_cases c43 : 0 ≤ ((rd_T56 t344 x39_1).f1)
            ·rw [if_pos c43] at H
             have c43b0 : decide (0 ≤ ((rd_T56 t344 x39_1).f1)) = true := decide_eq_true c43
             clear c43
             by_cases c44 : ((rd_T56 t344 x39_1).f1) < (x11_1.length : Int)
             ·rw [if_pos c44] at H
              have c44b0 : decide (((rd_T56 t344 x39_1).f1) < (x11_1.length : Int)) = true := decide_eq_true c44
              clear c44
              by_cases c45 : (rd x11_1 ((rd_T56 t344 x39_1).f1)) < 0
              ·rw [if_pos c45] at H
               have c45b0 : decide ((rd x11_1 ((rd_T56 t344 x39_1).f1)) < 0) = true := decide_eq_true c45
               clear c45
               by_cases c46 : 0 ≤ ((rd_T56 t344 x39_1).f0)
               ·rw [if_pos c46] at H
                have c46b0 : decide (0 ≤ ((rd_T56 t344 x39_1).f0)) = true := decide_eq_true c46
                clear c46
                by_cases c47 : ((rd_T56 t344 x39_1).f0) < (x11_1.length : Int)
                ·rw [if_pos c47] at H
                 have c47b0 : decide (((rd_T56 t344 x39_1).f0) < (x11_1.length : Int)) = true := decide_eq_true c47
                 clear c47
                 obtain ⟨y356, hy356⟩ : ∃ y_ : List Int, y_ = (x11_1.set (((rd_T56 t344 x39_1).f0) : Int).toNat (-1)) := ⟨_, rfl⟩
                 replace H : (impl_DelayTo.l0 k1 l2 a3 y356 t344 (t344.length : Int) (wrap64 (x39_1 + 1)) l0_0 l0_1) = some (r1, r2) := by first | (rw [hy356]; with_reducible exact H) | (have H2_ := (Option.bind_some _ _).symm.trans H; rw [hy356]; with_reducible exact H2_) | (have H2_ := (Option.bind_some _ _).symm.trans H; with_reducible exact H2_) | with_reducible exact H | (rw [hy356]; exact H) | exact H
                 have Ny356 := Aside0.mk hy356
                 clear hy356
                 have H' := Aside0.mk H
                 clear H
                 have p351 : 0 ≤ (x39_1 : Int) := oZ
                 have q351 : x39_1 < (t344.length : Int) := oZ
                 obtain ⟨ad351, e351, hx351_0, hx351_1, hx351_2⟩ := at_T56 (Kd.R_reads' HO_37.out).2.2 x39_1 p351 q351
                 cases e351
                 replace p351 := eq_true p351
                 replace q351 := eq_true q351
                 go_wp2_with (first | ((with_reducible refine gate_dst (N := 13) rfl ?_); refine boxZ 13 #[.int .i64 0, .int .i64 0, .int .i64 0] 56 rfl rfl ?_; intro gb352 hg w49 hbox hb; have n0_ := Aside0.mk (Kd.R_below (Kd.rZ HO_11.out) hb); have n1_ := Aside0.mk (Kd.R_below (Kd.R_elderB (Kd.rZ HO_37.out) gb352 (Nat.le_of_eq hg.symm)) hb); have n2_ := Aside0.mk (blk_below (g := gb337) (o := .cells #[.slice A0_0 l0_0.length c0_0, .slice A0_1 l0_1.length c0_1] 31 (0, 0)) (kZ BK337.out) hb); have n3_ := Aside0.mk (below_step bZ hb); have n4_ := Aside0.mk (hbox); have n5_ := Aside0.mk ((by rw [hg]; exact bsZ : w.heap.size ≤ gb352)); have n6_ := Aside0.mk ((by rw [hg]; exact bsZ : w.heap.size ≤ gb352)); have n7_ := Aside0.mk ((by rw [hg]; exact Nat.ne_of_lt (blk_lt (g := gb337) (o := .cells #[.slice A0_0 l0_0.length c0_0, .slice A0_1 l0_1.length c0_1] 31 (0, 0)) (kZ BK337.out)) : gb337 ≠ gb352)); have n8_ := Aside0.mk ((by rw [hg]; exact Nat.ne_of_gt (blk_lt (g := gb337) (o := .cells #[.slice A0_0 l0_0.length c0_0, .slice A0_1 l0_1.length c0_1] 31 (0, 0)) (kZ BK337.out)) : gb352 ≠ gb337)); clear HO_11; clear HO_37; clear BK337; clear HB; have HO_11 := n0_; have HO_37 := n1_; have BK337 := n2_; have HB := n3_; have BK352 := n4_; have GW352 := n5_; have GE352 := n6_; have NB337_352 := n7_; have NB352_337 := n8_; clear n0_ n1_ n2_ n3_ n4_ n5_ n6_ n7_ n8_; clear hb hbox hg; have hnb50 := NB352_337.out; have hnc50 := NB337_352.out; have hcz51_0 := bc0 BK352.out; have hcz51_1 := bc1 BK352.out; have hcz51_2 := bc2 BK352.out; have hfz51_0 := blk_frozen BK352.out 0; have hfz51_1 := blk_frozen BK352.out 1; have hfz51_2 := blk_frozen BK352.out 2; have hcz52_0 := bc0 BK337.out; have hcz52_1 := bc1 BK337.out; have hfz52_0 := blk_frozen BK337.out 0; have hfz52_1 := blk_frozen BK337.out 1) | ((with_reducible refine gate_callee (f := 26) rfl ?_); refine goesL_ (some 46) rfl rfl Try.func26 (by kernel_rfl) rfl #[.agg #[.int .i64 ((rd_T56 t344 x39_1).f0), .int .i64 ((rd_T56 t344 x39_1).f1), .int .i64 ((rd_T56 t344 x39_1).f2)], .agg #[.slice A0_0 l0_0.length c0_0, .slice A0_1 l0_1.length c0_1], .slice A2 l2.length c2] rfl gZ ?_; (with_reducible refine (impl_way_along.calls ((rd_T56 t344 x39_1).f0) ((rd_T56 t344 x39_1).f1) ((rd_T56 t344 x39_1).f2) _ _ l0_0 _ _ l0_1 _ _ l2 t353 _ ?side1 ?side2 ?side3 ?side4 ?side5 ?side6 A30.out).mono ?_); (case side1 => exact Kd.C_below HR0_0.out bZ); (case side2 => exact HC0_0.out); (case side3 => exact Kd.C_below HR0_1.out bZ); (case side4 => exact HC0_1.out); (case side5 => exact Kd.C_below HR2.out bZ); (case side6 => exact HC2.out); rintro e w53 ⟨rfl, hb⟩; refine ⟨_, rfl, ?_⟩; have n0_ := Aside0.mk (Kd.R_below (Kd.rZ ((Kd.R_mono (Kd.R_far (p := ⟨gb352, 2, none⟩) (Kd.R_far (p := ⟨gb352, 1, none⟩) (Kd.R_far (p := ⟨gb352, 0, none⟩) (Kd.R_types HO_11.out BK352.out (by decide)) (fun _ hk => hk.2) (.int .i64 ((rd_T56 t344 x39_1).f0))) (fun _ hk => hk.2) (.int .i64 ((rd_T56 t344 x39_1).f1))) (fun _ hk => hk.2) (.int .i64 ((rd_T56 t344 x39_1).f2))) (fun _ h_ => h_.1)))) hb); have n1_ := Aside0.mk (Kd.R_below (Kd.rZ ((Kd.R_mono (Kd.R_far (p := ⟨gb352, 2, none⟩) (Kd.R_far (p := ⟨gb352, 1, none⟩) (Kd.R_far (p := ⟨gb352, 0, none⟩) (Kd.R_mono HO_37.out (fun k_ hk => (⟨hk, hk.2⟩ : _ ∧ k_ ≠ gb352))) (fun _ hk => hk.2) (.int .i64 ((rd_T56 t344 x39_1).f0))) (fun _ hk => hk.2) (.int .i64 ((rd_T56 t344 x39_1).f1))) (fun _ hk => hk.2) (.int .i64 ((rd_T56 t344 x39_1).f2))) (fun _ h_ => h_.1)))) hb); have n2_ := Aside0.mk (blk_below (g := gb337) (o := .cells #[.slice A0_0 l0_0.length c0_0, .slice A0_1 l0_1.length c0_1] 31 (0, 0)) (by (with_reducible repeat (first | refine blk_drewN ?_ _ | refine blk_drew ?_ | refine blk_alloc ?_ _)); refine blk_far ?_ NB337_352.out _; (with_reducible repeat (first | refine blk_drewN ?_ _ | refine blk_drew ?_ | refine blk_alloc ?_ _)); refine blk_far ?_ NB337_352.out _; (with_reducible repeat (first | refine blk_drewN ?_ _ | refine blk_drew ?_ | refine blk_alloc ?_ _)); refine blk_far ?_ NB337_352.out _; (with_reducible repeat (first | refine blk_drewN ?_ _ | refine blk_drew ?_ | refine blk_alloc ?_ _)); exact BK337.out) hb); have n3_ := Aside0.mk (blk_below (g := gb352) (o := .cells #[.int .i64 ((rd_T56 t344 x39_1).f0), .int .i64 ((rd_T56 t344 x39_1).f1), .int .i64 ((rd_T56 t344 x39_1).f2)] 56 (0, 0)) (by (with_reducible repeat (first | refine blk_drewN ?_ _ | refine blk_drew ?_ | refine blk_alloc ?_ _)); refine blk_put (cs := #[.int .i64 ((rd_T56 t344 x39_1).f0), .int .i64 ((rd_T56 t344 x39_1).f1), .int .i64 0]) ?_ 2 _ rfl; (with_reducible repeat (first | refine blk_drewN ?_ _ | refine blk_drew ?_ | refine blk_alloc ?_ _)); refine blk_put (cs := #[.int .i64 ((rd_T56 t344 x39_1).f0), .int .i64 0, .int .i64 0]) ?_ 1 _ rfl; (with_reducible repeat (first | refine blk_drewN ?_ _ | refine blk_drew ?_ | refine blk_alloc ?_ _)); refine blk_put (cs := #[.int .i64 0, .int .i64 0, .int .i64 0]) ?_ 0 _ rfl; (with_reducible repeat (first | refine blk_drewN ?_ _ | refine blk_drew ?_ | refine blk_alloc ?_ _)); exact BK352.out) hb); have n4_ := Aside0.mk (below_step bZ hb); clear HO_11; clear HO_37; clear BK337; clear BK352; clear HB; have HO_11 := n0_; have HO_37 := n1_; have BK337 := n2_; have BK352 := n3_; have HB := n4_; clear n0_ n1_ n2_ n3_ n4_; (try clear hb); (try clear hb2); (try clear hk); (try clear hi); have hcz54_0 := bc0 BK352.out; have hcz54_1 := bc1 BK352.out; have hcz54_2 := bc2 BK352.out; have hfz54_0 := blk_frozen BK352.out 0; have hfz54_1 := blk_frozen BK352.out 1; have hfz54_2 := blk_frozen BK352.out 2; obtain ⟨Ao55, co55, eo55⟩ := Kd.R_slice HO_11.out; subst eo55; have p355 : 0 ≤ (((rd_T56 t344 x39_1).f1) : Int) := oZ; have q355 : ((rd_T56 t344 x39_1).f1) < (x11_1.length : Int) := oZ; obtain ⟨ad355, e355, hx355_0⟩ := Kd.at_int (Kd.R_reads' HO_11.out).2.2 ((rd_T56 t344 x39_1).f1) p355 q355; cases e355; replace p355 := eq_true p355; replace q355 := eq_true q355; have p48 : 0 ≤ (((rd_T56 t344 x39_1).f0) : Int) := oZ; have q48 : (((rd_T56 t344 x39_1).f0) : Int) < ((x11_1.length : Int) : Int) := oZ; obtain ⟨go48, co48, eo48, gb48, gl48, cl48, HG48⟩ := Kd.R_form HO_11.out (by omega); (first | cases eo48 | (injection eo48 with ea_ en_ ec_; (first | subst ea_ | (injection ea_ with ea_; subst ea_)); subst ec_; clear en_)); have GB48 := Aside0.mk gb48; have GG48 := Aside0.mk HG48; clear gb48 gl48 HG48; (first | simp only [add_plain] at hx355_0 | skip); obtain ⟨hx48_0, hf48_0⟩ := Kd.R_celln 0 HO_11.out (((rd_T56 t344 x39_1).f0) : Int) p48 q48; replace p48 := eq_true p48; replace q48 := eq_true q48; obtain ⟨hy56_, hz56_⟩ := Kd.R_celln 0 HO_11.out (((rd_T56 t344 x39_1).f0) : Int) oZ oZ; have HP56 := Kd.R_putg HO_11.out (((rd_T56 t344 x39_1).f0) : Int) (-1)) | ((with_reducible refine gate_store (t := 2) (p := 60) rfl ?_); refine store_event (t := 2) (p := 60) (v := ?vo_w57) (w1 := (w53.setCell ⟨go48, (((rd_T56 t344 x39_1).f0) : Int).toNat, none⟩ (.int .i64 (-1)))) ?hg ?ho ?hn ?hr ?_; (case ho => rfl); (case hg => rfl); (case hn => rfl); (case hr => first | (go_simp; done) | (go_simp; rfl)); intro w57 hw; have hg : w53.grownBy w57 (some go48) := (by rw [hw]; exact HP56.2); have hp_ : Kd.R (Kd.int .i64) 2 w57 w.heap.size (fun _ => True) (.slice (some ⟨go48, 0, none⟩) x11_1.length co55) y356 := (by rw [hw, Ny356.out]; exact HP56.1); clear HP56; have n0_ := Aside0.mk (hp_); have n1_ := Aside0.mk (Kd.R_over' (v := (.slice (some ⟨go48, 0, none⟩) x11_1.length co55)) (Kd.rZ HO_37.out) (Kd.R_typed HO_11.out) (by decide) hg); have n2_ := Aside0.mk (blk_grown (g := gb337) (o := .cells #[.slice A0_0 l0_0.length c0_0, .slice A0_1 l0_1.length c0_1] 31 (0, 0)) (kZ BK337.out) hg (Kd.R_ne HO_11.out BK337.out (by decide))); have n3_ := Aside0.mk (blk_grown (g := gb352) (o := .cells #[.int .i64 ((rd_T56 t344 x39_1).f0), .int .i64 ((rd_T56 t344 x39_1).f1), .int .i64 ((rd_T56 t344 x39_1).f2)] 56 (0, 0)) (kZ BK352.out) hg (Kd.R_ne HO_11.out BK352.out (by decide))); have n4_ := Aside0.mk ((by rw [hw]; exact below_set (HB.out) GB48.out : Below w.heap.size w w57)); clear HO_11; clear HO_37; clear BK337; clear BK352; clear HB; have HO_11 := n0_; have HO_37 := n1_; have BK337 := n2_; have BK352 := n3_; have HB := n4_; clear n0_ n1_ n2_ n3_ n4_; clear hg hw hp_))
                 go_roundg k1
                 case measure => have := HK1.out; omega
                 case rel => exact ⟨(y356), (wrap64 (x39_1 + 1)), sZ, H', ⟨by have := HK1.out; omega⟩, ⟨Kd.rZ HO_11.out⟩, ⟨Kd.rZ (Kd.R_mono HO_37.out (fun _ hk => trivial))⟩, ⟨kZ BK337.out⟩, ⟨bZ⟩⟩
                ·rw [if_neg c47] at H
                 exact absurd H (by simp)
               ·rw [if_neg c46] at H
                exact absurd H (by simp)
              ·rw [if_neg c45] at H
               have c45b0 : decide ((rd x11_1 ((rd_T56 t344 x39_1).f1)) < 0) = false := decide_eq_false c45
               clear c45
               by_cases c58 : 0 ≤ ((rd_T56 t344 x39_1).f2)
               ·rw [if_pos c58] at H
                have c58b0 : decide (0 ≤ ((rd_T56 t344 x39_1).f2)) = true := decide_eq_true c58
                clear c58
                by_cases c59 : ((rd_T56 t344 x39_1).f2) < (l0_1.length : Int)
                ·rw [if_pos c59] at H
                 have c59b0 : decide (((rd_T56 t344 x39_1).f2) < (l0_1.length : Int)) = true := decide_eq_true c59
                 clear c59
                 replace H := Option.bind_eq_some_iff.mp H
                 obtain ⟨t359, A600, H⟩ := H
                 replace H : (if 0 ≤ ((rd_T56 t344 x39_1).f0) then (if ((rd_T56 t344 x39_1).f0) < (x11_1.length : Int) then (impl_DelayTo.l0 k1 l2 a3 (x11_1.set (((rd_T56 t344 x39_1).f0) : Int).toNat (wrap64 ((rd x11_1 ((rd_T56 t344 x39_1).f1)) + t359))) t344 (t344.length : Int) (wrap64 (x39_1 + 1)) l0_0 l0_1) else (none)) else (none)) = some (r1, r2) := H
                 have A60 := Aside0.mk A600
                 clear A600
                 by_cases c61 : 0 ≤ ((rd_T56 t344 x39_1).f0)
                 ·rw [if_pos c61] at H
                  have c61b0 : decide (0 ≤ ((rd_T56 t344 x39_1).f0)) = true := decide_eq_true c61
                  clear c61
                  by_cases c62 : ((rd_T56 t344 x39_1).f0) < (x11_1.length : Int)
                  ·rw [if_pos c62] at H
                   have c62b0 : decide (((rd_T56 t344 x39_1).f0) < (x11_1.length : Int)) = true := decide_eq_true c62
                   clear c62
                   obtain ⟨y360, hy360⟩ : ∃ y_ : List Int, y_ = (x11_1.set (((rd_T56 t344 x39_1).f0) : Int).toNat (wrap64 ((rd x11_1 ((rd_T56 t344 x39_1).f1)) + t359))) := ⟨_, rfl⟩
                   replace H : (impl_DelayTo.l0 k1 l2 a3 y360 t344 (t344.length : Int) (wrap64 (x39_1 + 1)) l0_0 l0_1) = some (r1, r2) := by first | (rw [hy360]; with_reducible exact H) | (have H2_ := (Option.bind_some _ _).symm.trans H; rw [hy360]; with_reducible exact H2_) | (have H2_ := (Option.bind_some _ _).symm.trans H; with_reducible exact H2_) | with_reducible exact H | (rw [hy360]; exact H) | exact H
                   have Ny360 := Aside0.mk hy360
                   clear hy360
                   have H' := Aside0.mk H
                   clear H
                   have p351 : 0 ≤ (x39_1 : Int) := oZ
                   have q351 : x39_1 < (t344.length : Int) := oZ
                   obtain ⟨ad351, e351, hx351_0, hx351_1, hx351_2⟩ := at_T56 (Kd.R_reads' HO_37.out).2.2 x39_1 p351 q351
                   cases e351
                   replace p351 := eq_true p351
                   replace q351 := eq_true q351
                   try go_wp2_with (first | ((with_reducible refine gate_dst (N := 13) rfl ?_); refine boxZ 13 #[.int .i64 0, .int .i64 0, .int .i64 0] 56 rfl rfl ?_; intro gb352 hg w64 hbox hb; have n0_ := Aside0.mk (Kd.R_below (Kd.rZ HO_11.out) hb); have n1_ := Aside0.mk (Kd.R_below (Kd.R_elderB (Kd.rZ HO_37.out) gb352 (Nat.le_of_eq hg.symm)) hb); have n2_ := Aside0.mk (blk_below (g := gb337) (o := .cells #[.slice A0_0 l0_0.length c0_0, .slice A0_1 l0_1.length c0_1] 31 (0, 0)) (kZ BK337.out) hb); have n3_ := Aside0.mk (below_step bZ hb); have n4_ := Aside0.mk (hbox); have n5_ := Aside0.mk ((by rw [hg]; exact bsZ : w.heap.size ≤ gb352)); have n6_ := Aside0.mk ((by rw [hg]; exact bsZ : w.heap.size ≤ gb352)); have n7_ := Aside0.mk ((by rw [hg]; exact Nat.ne_of_lt (blk_lt (g := gb337) (o := .cells #[.slice A0_0 l0_0.length c0_0, .slice A0_1 l0_1.length c0_1] 31 (0, 0)) (kZ BK337.out)) : gb337 ≠ gb352)); have n8_ := Aside0.mk ((by rw [hg]; exact Nat.ne_of_gt (blk_lt (g := gb337) (o := .cells #[.slice A0_0 l0_0.length c0_0, .slice A0_1 l0_1.length c0_1] 31 (0, 0)) (kZ BK337.out)) : gb352 ≠ gb337)); clear HO_11; clear HO_37; clear BK337; clear HB; have HO_11 := n0_; have HO_37 := n1_; have BK337 := n2_; have HB := n3_; have BK352 := n4_; have GW352 := n5_; have GE352 := n6_; have NB337_352 := n7_; have NB352_337 := n8_; clear n0_ n1_ n2_ n3_ n4_ n5_ n6_ n7_ n8_; clear hb hbox hg; have hnb65 := NB352_337.out; have hnc65 := NB337_352.out; have hcz66_0 := bc0 BK352.out; have hcz66_1 := bc1 BK352.out; have hcz66_2 := bc2 BK352.out; have hfz66_0 := blk_frozen BK352.out 0; have hfz66_1 := blk_frozen BK352.out 1; have hfz66_2 := blk_frozen BK352.out 2; have hcz67_0 := bc0 BK337.out; have hcz67_1 := bc1 BK337.out; have hfz67_0 := blk_frozen BK337.out 0; have hfz67_1 := blk_frozen BK337.out 1) | ((with_reducible refine gate_callee (f := 26) rfl ?_); refine goesL_ (some 46) rfl rfl Try.func26 (by kernel_rfl) rfl #[.agg #[.int .i64 ((rd_T56 t344 x39_1).f0), .int .i64 ((rd_T56 t344 x39_1).f1), .int .i64 ((rd_T56 t344 x39_1).f2)], .agg #[.slice A0_0 l0_0.length c0_0, .slice A0_1 l0_1.length c0_1], .slice A2 l2.length c2] rfl gZ ?_; (with_reducible refine (impl_way_along.calls ((rd_T56 t344 x39_1).f0) ((rd_T56 t344 x39_1).f1) ((rd_T56 t344 x39_1).f2) _ _ l0_0 _ _ l0_1 _ _ l2 t353 _ ?side1 ?side2 ?side3 ?side4 ?side5 ?side6 A30.out).mono ?_); (case side1 => exact Kd.C_below HR0_0.out bZ); (case side2 => exact HC0_0.out); (case side3 => exact Kd.C_below HR0_1.out bZ); (case side4 => exact HC0_1.out); (case side5 => exact Kd.C_below HR2.out bZ); (case side6 => exact HC2.out); rintro e w68 ⟨rfl, hb⟩; refine ⟨_, rfl, ?_⟩; have n0_ := Aside0.mk (Kd.R_below (Kd.rZ ((Kd.R_mono (Kd.R_far (p := ⟨gb352, 2, none⟩) (Kd.R_far (p := ⟨gb352, 1, none⟩) (Kd.R_far (p := ⟨gb352, 0, none⟩) (Kd.R_types HO_11.out BK352.out (by decide)) (fun _ hk => hk.2) (.int .i64 ((rd_T56 t344 x39_1).f0))) (fun _ hk => hk.2) (.int .i64 ((rd_T56 t344 x39_1).f1))) (fun _ hk => hk.2) (.int .i64 ((rd_T56 t344 x39_1).f2))) (fun _ h_ => h_.1)))) hb); have n1_ := Aside0.mk (Kd.R_below (Kd.rZ ((Kd.R_mono (Kd.R_far (p := ⟨gb352, 2, none⟩) (Kd.R_far (p := ⟨gb352, 1, none⟩) (Kd.R_far (p := ⟨gb352, 0, none⟩) (Kd.R_mono HO_37.out (fun k_ hk => (⟨hk, hk.2⟩ : _ ∧ k_ ≠ gb352))) (fun _ hk => hk.2) (.int .i64 ((rd_T56 t344 x39_1).f0))) (fun _ hk => hk.2) (.int .i64 ((rd_T56 t344 x39_1).f1))) (fun _ hk => hk.2) (.int .i64 ((rd_T56 t344 x39_1).f2))) (fun _ h_ => h_.1)))) hb); have n2_ := Aside0.mk (blk_below (g := gb337) (o := .cells #[.slice A0_0 l0_0.length c0_0, .slice A0_1 l0_1.length c0_1] 31 (0, 0)) (by (with_reducible repeat (first | refine blk_drewN ?_ _ | refine blk_drew ?_ | refine blk_alloc ?_ _)); refine blk_far ?_ NB337_352.out _; (with_reducible repeat (first | refine blk_drewN ?_ _ | refine blk_drew ?_ | refine blk_alloc ?_ _)); refine blk_far ?_ NB337_352.out _; (with_reducible repeat (first | refine blk_drewN ?_ _ | refine blk_drew ?_ | refine blk_alloc ?_ _)); refine blk_far ?_ NB337_352.out _; (with_reducible repeat (first | refine blk_drewN ?_ _ | refine blk_drew ?_ | refine blk_alloc ?_ _)); exact BK337.out) hb); have n3_ := Aside0.mk (blk_below (g := gb352) (o := .cells #[.int .i64 ((rd_T56 t344 x39_1).f0), .int .i64 ((rd_T56 t344 x39_1).f1), .int .i64 ((rd_T56 t344 x39_1).f2)] 56 (0, 0)) (by (with_reducible repeat (first | refine blk_drewN ?_ _ | refine blk_drew ?_ | refine blk_alloc ?_ _)); refine blk_put (cs := #[.int .i64 ((rd_T56 t344 x39_1).f0), .int .i64 ((rd_T56 t344 x39_1).f1), .int .i64 0]) ?_ 2 _ rfl; (with_reducible repeat (first | refine blk_drewN ?_ _ | refine blk_drew ?_ | refine blk_alloc ?_ _)); refine blk_put (cs := #[.int .i64 ((rd_T56 t344 x39_1).f0), .int .i64 0, .int .i64 0]) ?_ 1 _ rfl; (with_reducible repeat (first | refine blk_drewN ?_ _ | refine blk_drew ?_ | refine blk_alloc ?_ _)); refine blk_put (cs := #[.int .i64 0, .int .i64 0, .int .i64 0]) ?_ 0 _ rfl; (with_reducible repeat (first | refine blk_drewN ?_ _ | refine blk_drew ?_ | refine blk_alloc ?_ _)); exact BK352.out) hb); have n4_ := Aside0.mk (below_step bZ hb); clear HO_11; clear HO_37; clear BK337; clear BK352; clear HB; have HO_11 := n0_; have HO_37 := n1_; have BK337 := n2_; have BK352 := n3_; have HB := n4_; clear n0_ n1_ n2_ n3_ n4_; (try clear hb); (try clear hb2); (try clear hk); (try clear hi); have hcz69_0 := bc0 BK352.out; have hcz69_1 := bc1 BK352.out; have hcz69_2 := bc2 BK352.out; have hfz69_0 := blk_frozen BK352.out 0; have hfz69_1 := blk_frozen BK352.out 1; have hfz69_2 := blk_frozen BK352.out 2; obtain ⟨Ao70, co70, eo70⟩ := Kd.R_slice HO_11.out; subst eo70; have p355 : 0 ≤ (((rd_T56 t344 x39_1).f1) : Int) := oZ; have q355 : ((rd_T56 t344 x39_1).f1) < (x11_1.length : Int) := oZ; obtain ⟨ad355, e355, hx355_0⟩ := Kd.at_int (Kd.R_reads' HO_11.out).2.2 ((rd_T56 t344 x39_1).f1) p355 q355; cases e355; replace p355 := eq_true p355; replace q355 := eq_true q355))
                   have n0_ := Aside0.mk (Kd.R_drew HO_11.out)
                   have n1_ := Aside0.mk (Kd.R_drew HO_37.out)
                   have n2_ := Aside0.mk (blk_drew BK337.out)
                   have n3_ := Aside0.mk (blk_drew BK352.out)
                   have n4_ := Aside0.mk (below_drew1 HB.out)
                   clear HO_11; clear HO_37; clear BK337; clear BK352; clear HB
                   have HO_11 := n0_
                   have HO_37 := n1_
                   have BK337 := n2_
                   have BK352 := n3_
                   have HB := n4_
                   clear n0_ n1_ n2_ n3_ n4_
                   have p357 : 0 ≤ (((rd_T56 t344 x39_1).f1) : Int) := oZ
                   have q357 : ((rd_T56 t344 x39_1).f1) < (x11_1.length : Int) := oZ
                   obtain ⟨ad357, e357, hx357_0⟩ := Kd.at_int (Kd.R_reads' HO_11.out).2.2 ((rd_T56 t344 x39_1).f1) p357 q357
                   obtain rfl : ad355 = ad357 := (by injection e357)
                   replace p357 := eq_true p357
                   replace q357 := eq_true q357
                   have p358 : 0 ≤ (((rd_T56 t344 x39_1).f2) : Int) := oZ
                   have q358 : ((rd_T56 t344 x39_1).f2) < (l0_1.length : Int) := oZ
                   obtain ⟨ad358, e358, hx358_0, hx358_1, hx358_2, hx358_3, hx358_4, hx358_5⟩ := at_T59 HR0_1.out ((rd_T56 t344 x39_1).f2) p358 q358
                   have hw358_5 := hx358_5
                   have hw358_4 := hx358_4
                   have hw358_3 := hx358_3
                   have hw358_2 := hx358_2
                   have hw358_1 := hx358_1
                   have hw358_0 := hx358_0
                   cases e358
                   replace hx358_0 := (HB.out.cell (World.block_lt_of_cell? w _ hx358_0)).trans hx358_0
                   replace hx358_1 := (HB.out.cell (World.block_lt_of_cell? w _ hx358_1)).trans hx358_1
                   replace hx358_2 := (HB.out.cell (World.block_lt_of_cell? w _ hx358_2)).trans hx358_2
                   replace hx358_3 := (HB.out.cell (World.block_lt_of_cell? w _ hx358_3)).trans hx358_3
                   replace hx358_4 := (HB.out.cell (World.block_lt_of_cell? w _ hx358_4)).trans hx358_4
                   replace hx358_5 := (HB.out.cell (World.block_lt_of_cell? w _ hx358_5)).trans hx358_5
                   replace p358 := eq_true p358
                   replace q358 := eq_true q358
                   refine start_ (n := 19) (S := fun w' => w'.cell? ⟨gb352, 0, none⟩ = some (.int .i64 ((rd_T56 t344 x39_1).f0)) ∧ w'.cell? ⟨gb352, 1, none⟩ = some (.int .i64 ((rd_T56 t344 x39_1).f1)) ∧ w'.cell? ⟨gb352, 2, none⟩ = some (.int .i64 ((rd_T56 t344 x39_1).f2)) ∧ w'.cell? ⟨gb337, 0, none⟩ = some (.slice A0_0 l0_0.length c0_0) ∧ w'.cell? ⟨gb337, 1, none⟩ = some (.slice (some ad358) l0_1.length c0_1) ∧ w'.cell? (ad355.add (((rd_T56 t344 x39_1).f1)).toNat) = some (.int .i64 (rd x11_1 ((rd_T56 t344 x39_1).f1))) ∧ w'.cell? (ad358.add ((((rd_T56 t344 x39_1).f2)).toNat * 6)) = some (.string ((rd_T59 l0_1 ((rd_T56 t344 x39_1).f2)).f0)) ∧ w'.cell? ⟨(ad358.add ((((rd_T56 t344 x39_1).f2)).toNat * 6)).block, (ad358.add ((((rd_T56 t344 x39_1).f2)).toNat * 6)).off + 1, none⟩ = some (.int .i64 ((rd_T59 l0_1 ((rd_T56 t344 x39_1).f2)).f1)) ∧ w'.cell? ⟨(ad358.add ((((rd_T56 t344 x39_1).f2)).toNat * 6)).block, (ad358.add ((((rd_T56 t344 x39_1).f2)).toNat * 6)).off + 2, none⟩ = some (.int .i64 ((rd_T59 l0_1 ((rd_T56 t344 x39_1).f2)).f2)) ∧ w'.cell? ⟨(ad358.add ((((rd_T56 t344 x39_1).f2)).toNat * 6)).block, (ad358.add ((((rd_T56 t344 x39_1).f2)).toNat * 6)).off + 3, none⟩ = some (.int .i64 ((rd_T59 l0_1 ((rd_T56 t344 x39_1).f2)).f3)) ∧ w'.cell? ⟨(ad358.add ((((rd_T56 t344 x39_1).f2)).toNat * 6)).block, (ad358.add ((((rd_T56 t344 x39_1).f2)).toNat * 6)).off + 4, none⟩ = some (.int .i64 ((rd_T59 l0_1 ((rd_T56 t344 x39_1).f2)).f4)) ∧ w'.cell? ⟨(ad358.add ((((rd_T56 t344 x39_1).f2)).toNat * 6)).block, (ad358.add ((((rd_T56 t344 x39_1).f2)).toNat * 6)).off + 5, none⟩ = some (.int .i64 ((rd_T59 l0_1 ((rd_T56 t344 x39_1).f2)).f5))) (ds := [18]) #[false, false, false, false, false, false, false, false, false, false, false, false, false, false, false, false, false, false, false] (by kernel_rfl) rfl rfl ⟨(blk_cell BK352.out 0).trans rfl, (blk_cell BK352.out 1).trans rfl, (blk_cell BK352.out 2).trans rfl, (blk_cell BK337.out 0).trans rfl, (blk_cell BK337.out 1).trans rfl, hx357_0, ((HB.out.cell (World.block_lt_of_cell? w _ hw358_0)).trans hw358_0), ((HB.out.cell (World.block_lt_of_cell? w _ hw358_1)).trans hw358_1), ((HB.out.cell (World.block_lt_of_cell? w _ hw358_2)).trans hw358_2), ((HB.out.cell (World.block_lt_of_cell? w _ hw358_3)).trans hw358_3), ((HB.out.cell (World.block_lt_of_cell? w _ hw358_4)).trans hw358_4), ((HB.out.cell (World.block_lt_of_cell? w _ hw358_5)).trans hw358_5)⟩ (fun hHeld => ?_); refine with_tabW impl_DelayTo.tab15 impl_DelayTo.bits15 (fun HT_ HW_ => ?_)
                   generalize w68.drew = w71 at HO_11 HO_37 BK337 BK352 HB hx357_0 hx358_0 hx358_1 hx358_2 hx358_3 hx358_4 hx358_5 hHeld ⊢
                   refine puZ 0 (some 61) #[true, false, false, false, false, false, false, false, false, false, false, false, false, false, false, false, false, false, false] rfl rfl HT_.out ?_
                   refine puZ 1 (some 62) #[true, true, false, false, false, false, false, false, false, false, false, false, false, false, false, false, false, false, false] rfl rfl HT_.out ?_
                   refine puZ 3 (some 64) #[true, true, false, true, false, false, false, false, false, false, false, false, false, false, false, false, false, false, false] rfl rfl HT_.out ?_
                   refine puZ 4 (some 65) #[true, true, false, true, true, false, false, false, false, false, false, false, false, false, false, false, false, false, false] rfl rfl HT_.out ?_
                   refine puZ 8 (some 69) #[true, true, false, true, true, false, false, false, true, false, false, false, false, false, false, false, false, false, false] rfl rfl HT_.out ?_
                   refine puZ 10 (some 71) #[true, true, false, true, true, false, false, false, true, false, true, false, false, false, false, false, false, false, false] rfl rfl HT_.out ?_
                   refine puZ 14 (some 75) #[true, true, false, true, true, false, false, false, true, false, true, false, false, false, true, false, false, false, false] rfl rfl HT_.out ?_
                   refine take_ (i := 2) (N := some 63) (v := ?_) (a' := ?_) #[true, true, true, true, true, false, false, false, true, false, true, false, false, false, true, false, false, false, false] rfl rfl (take_ofW HT_.out HW_.out (by kernel_rfl)) (fun _ _ _ h => h) (Or.inl ⟨by rfl, ?_⟩) hHeld ?_ ?_
                   rotate_left
                   ·rintro w' ⟨s0, s1, s2, s3, s4, s5, s6, s7, s8, s9, s10, s11⟩
                    go_simp
                    with_reducible rfl
                   rotate_left
                   ·simp only [Act.put, List.setIfInBounds_toArray, List.set_cons_zero, List.set_cons_succ, i64_w, i32_w]
                    rfl
                   refine take_ (i := 5) (N := some 66) (v := ?_) (a' := ?_) #[true, true, true, true, true, true, false, false, true, false, true, false, false, false, true, false, false, false, false] rfl rfl (take_ofW HT_.out HW_.out (by kernel_rfl)) (fun _ _ _ h => h) (Or.inl ⟨by rfl, ?_⟩) hHeld ?_ ?_
                   rotate_left
                   ·rintro w' ⟨s0, s1, s2, s3, s4, s5, s6, s7, s8, s9, s10, s11⟩
                    go_simp
                    with_reducible rfl
                   rotate_left
                   ·simp only [Act.put, List.setIfInBounds_toArray, List.set_cons_zero, List.set_cons_succ, i64_w, i32_w]
                    rfl
                   refine puZ 6 (some 67) #[true, true, true, true, true, true, true, false, true, false, true, false, false, false, true, false, false, false, false] rfl rfl HT_.out ?_
                   refine take_ (i := 7) (N := some 68) (v := ?_) (a' := ?_) #[true, true, true, true, true, true, true, true, true, false, true, false, false, false, true, false, false, false, false] rfl rfl (take_ofW HT_.out HW_.out (by kernel_rfl)) (fun _ _ _ h => h) (Or.inl ⟨by rfl, ?_⟩) hHeld ?_ ?_
                   rotate_left
                   ·rintro w' ⟨s0, s1, s2, s3, s4, s5, s6, s7, s8, s9, s10, s11⟩
                    go_simp
                    with_reducible rfl
                   rotate_left
                   ·simp only [Act.put, List.setIfInBounds_toArray, List.set_cons_zero, List.set_cons_succ, i64_w, i32_w]
                    rfl
                   refine take_ (i := 9) (N := some 70) (v := ?_) (a' := ?_) #[true, true, true, true, true, true, true, true, true, true, true, false, false, false, true, false, false, false, false] rfl rfl (take_ofW HT_.out HW_.out (by kernel_rfl)) (fun _ _ _ h => h) (Or.inl ⟨by rfl, ?_⟩) hHeld ?_ ?_
                   rotate_left
                   ·rintro w' ⟨s0, s1, s2, s3, s4, s5, s6, s7, s8, s9, s10, s11⟩
                    go_simp
                    with_reducible rfl
                   rotate_left
                   ·simp only [Act.put, List.setIfInBounds_toArray, List.set_cons_zero, List.set_cons_succ, i64_w, i32_w]
                    rfl
                   refine take_ (i := 11) (N := some 72) (v := ?_) (a' := ?_) #[true, true, true, true, true, true, true, true, true, true, true, true, false, false, true, false, false, false, false] rfl rfl (take_ofW HT_.out HW_.out (by kernel_rfl)) (fun _ _ _ h => h) (Or.inl ⟨by rfl, ?_⟩) hHeld ?_ ?_
                   rotate_left
                   ·rintro w' ⟨s0, s1, s2, s3, s4, s5, s6, s7, s8, s9, s10, s11⟩
                    go_simp
                    with_reducible rfl
                   rotate_left
                   ·simp only [Act.put, List.setIfInBounds_toArray, List.set_cons_zero, List.set_cons_succ, i64_w, i32_w]
                    rfl
                   refine puZ 12 (some 73) #[true, true, true, true, true, true, true, true, true, true, true, true, true, false, true, false, false, false, false] rfl rfl HT_.out ?_
                   refine take_ (i := 13) (N := some 74) (v := ?_) (a' := ?_) #[true, true, true, true, true, true, true, true, true, true, true, true, true, true, true, false, false, false, false] rfl rfl (take_ofW HT_.out HW_.out (by kernel_rfl)) (fun _ _ _ h => h) (Or.inl ⟨by rfl, ?_⟩) hHeld ?_ ?_
                   rotate_left
                   ·rintro w' ⟨s0, s1, s2, s3, s4, s5, s6, s7, s8, s9, s10, s11⟩
                    go_simp
                    with_reducible rfl
                   rotate_left
                   ·simp only [Act.put, List.setIfInBounds_toArray, List.set_cons_zero, List.set_cons_succ, i64_w, i32_w]
                    rfl
                   refine one_ (i := 15) (N := some 76) #[true, true, true, true, true, true, true, true, true, true, true, true, true, true, true, true, false, false, false] rfl rfl (one_of HT_.out (by kernel_rfl)) (by decide) (fun K hK => ?_)
                   refine goes_ Try.func27 (by kernel_rfl) rfl #[.agg #[.string ((rd_T59 l0_1 ((rd_T56 t344 x39_1).f2)).f0), .int .i64 ((rd_T59 l0_1 ((rd_T56 t344 x39_1).f2)).f1), .int .i64 ((rd_T59 l0_1 ((rd_T56 t344 x39_1).f2)).f2), .int .i64 ((rd_T59 l0_1 ((rd_T56 t344 x39_1).f2)).f3), .int .i64 ((rd_T59 l0_1 ((rd_T56 t344 x39_1).f2)).f4), .int .i64 ((rd_T59 l0_1 ((rd_T56 t344 x39_1).f2)).f5)], .int .i64 t353] (by rfl) rfl rfl gZ ?_
                   with_reducible refine (impl_Pipe_delay.calls ((rd_T59 l0_1 ((rd_T56 t344 x39_1).f2)).f0) ((rd_T59 l0_1 ((rd_T56 t344 x39_1).f2)).f1) ((rd_T59 l0_1 ((rd_T56 t344 x39_1).f2)).f2) ((rd_T59 l0_1 ((rd_T56 t344 x39_1).f2)).f3) ((rd_T59 l0_1 ((rd_T56 t344 x39_1).f2)).f4) ((rd_T59 l0_1 ((rd_T56 t344 x39_1).f2)).f5) t353 t359 _ A60.out).mono ?_
                   rintro e w72 ⟨rfl, hb⟩
                   have HS5_ := (hb.cell (World.block_lt_of_cell? _ _ (hHeld.2.2.2.2.2.1))).trans (hHeld.2.2.2.2.2.1)
                   refine ⟨_, rfl, ?_⟩
                   have n0_ := Aside0.mk (Kd.R_below (Kd.rZ HO_11.out) hb)
                   have n1_ := Aside0.mk (Kd.R_below (Kd.rZ HO_37.out) hb)
                   have n2_ := Aside0.mk (blk_below (g := gb337) (o := .cells #[.slice A0_0 l0_0.length c0_0, .slice (some ad358) l0_1.length c0_1] 31 (0, 0)) (kZ BK337.out) hb)
                   have n3_ := Aside0.mk (blk_below (g := gb352) (o := .cells #[.int .i64 ((rd_T56 t344 x39_1).f0), .int .i64 ((rd_T56 t344 x39_1).f1), .int .i64 ((rd_T56 t344 x39_1).f2)] 56 (0, 0)) (kZ BK352.out) hb)
                   have n4_ := Aside0.mk (below_step bZ hb)
                   clear HO_11; clear HO_37; clear BK337; clear BK352; clear HB
                   have HO_11 := n0_
                   have HO_37 := n1_
                   have BK337 := n2_
                   have BK352 := n3_
                   have HB := n4_
                   clear n0_ n1_ n2_ n3_ n4_
                   (try clear hb)
                   (try clear hb2)
                   (try clear hk)
                   (try clear hi)
                   have p63 : 0 ≤ (((rd_T56 t344 x39_1).f0) : Int) := oZ
                   have q63 : (((rd_T56 t344 x39_1).f0) : Int) < ((x11_1.length : Int) : Int) := oZ
                   obtain ⟨go63, co63, eo63, gb63, gl63, cl63, HG63⟩ := Kd.R_form HO_11.out (by omega)
                   (first | cases eo63 | (injection eo63 with ea_ en_ ec_; (first | subst ea_ | (injection ea_ with ea_; subst ea_)); subst ec_; clear en_))
                   have GB63 := Aside0.mk gb63
                   have GG63 := Aside0.mk HG63
                   clear gb63 gl63 HG63
                   (first | simp only [add_plain] at hx355_0 | skip)
                   (first | simp only [add_plain] at hx357_0 | skip)
                   obtain ⟨hx63_0, hf63_0⟩ := Kd.R_celln 0 HO_11.out (((rd_T56 t344 x39_1).f0) : Int) p63 q63
                   replace p63 := eq_true p63
                   replace q63 := eq_true q63
                   have HP73 := Kd.R_putn HO_11.out (((rd_T56 t344 x39_1).f0) : Int) (wrap64 ((rd x11_1 ((rd_T56 t344 x39_1).f1)) + t359))
                   rw [← Ny360.out] at HP73
                   have HQ73 := Aside0.mk HP73
                   clear HP73
                   refine hK.out _ _ ⟨(blk_cell BK352.out 0).trans rfl, (blk_cell BK352.out 1).trans rfl, (blk_cell BK352.out 2).trans rfl, (blk_cell BK337.out 0).trans rfl, (blk_cell BK337.out 1).trans rfl, HS5_, ((HB.out.cell (World.block_lt_of_cell? w _ hw358_0)).trans hw358_0), ((HB.out.cell (World.block_lt_of_cell? w _ hw358_1)).trans hw358_1), ((HB.out.cell (World.block_lt_of_cell? w _ hw358_2)).trans hw358_2), ((HB.out.cell (World.block_lt_of_cell? w _ hw358_3)).trans hw358_3), ((HB.out.cell (World.block_lt_of_cell? w _ hw358_4)).trans hw358_4), ((HB.out.cell (World.block_lt_of_cell? w _ hw358_5)).trans hw358_5)⟩ (fun hHeld => ?_)
                   clear hK K
                   refine norm_ (a' := ?_) ?_ ?_
                   rotate_left
                   ·show Act.put _ (some 76) _ = _
                    simp only [Act.put, List.setIfInBounds_toArray, List.set_cons_zero, List.set_cons_succ, i64_w, i32_w]
                    rfl
                   refine puZ 16 (some 77) #[true, true, true, true, true, true, true, true, true, true, true, true, true, true, true, true, true, false, false] rfl rfl HT_.out ?_
                   refine puZ 17 (some 78) #[true, true, true, true, true, true, true, true, true, true, true, true, true, true, true, true, true, true, false] rfl rfl HT_.out ?_
                   refine last_ (i := 18) (N := none) #[true, true, true, true, true, true, true, true, true, true, true, true, true, true, true, true, true, true, true] rfl rfl (one_of HT_.out (by kernel_rfl)) (by decide) (fun K hK => ?_)
                   refine skip_ (w1 := ?_) (by rfl) rfl ?_ ?_
                   rotate_left
                   ·go_simp
                    rfl
                   refine hK.out _ _ ?_
                   clear hK K
                   refine done_ (done_of HT_.out (by kernel_rfl)) ?_
                   try go_wp2
                   go_roundg k1
                   case measure => have := HK1.out; omega
                   case rel => exact ⟨(y360), (wrap64 (x39_1 + 1)), sZ, H', ⟨by have := HK1.out; omega⟩, ⟨Kd.rZ HQ73.out⟩, ⟨Kd.rZ (Kd.R_mono (Kd.R_far (p := ⟨go63, (((rd_T56 t344 x39_1).f0) : Int).toNat, none⟩) (Kd.R_types HO_37.out GG63.out (by decide)) (fun _ hk => hk.2) (.int .i64 (wrap64 ((rd x11_1 ((rd_T56 t344 x39_1).f1)) + t359)))) (fun _ hk => trivial))⟩, ⟨by (with_reducible repeat (first | refine blk_drewN ?_ _ | refine blk_drew ?_ | refine blk_alloc ?_ _)); refine blk_far ?_ (by have h_ := Kd.R_ne HO_11.out BK337.out (by decide); intro e_; exact h_ (by rw [e_]; rfl)) _; (with_reducible repeat (first | refine blk_drewN ?_ _ | refine blk_drew ?_ | refine blk_alloc ?_ _)); exact BK337.out⟩, ⟨by repeat (first | (with_reducible first | exact HB.out | apply below_alloc | apply pw_below_drewN | apply below_drew1 | refine below_set ?_ GB63.out | refine below_set ?_ GE337.out | refine below_set ?_ GE352.out) | exact HB.out)⟩⟩
                  ·rw [if_neg c62] at H
                   exact absurd H (by simp)
                 ·rw [if_neg c61] at H
                  exact absurd H (by simp)
                ·rw [if_neg c59] at H
                 exact absurd H (by simp)
               ·rw [if_neg c58] at H
                exact absurd H (by simp)
             ·rw [if_neg c44] at H
              exact absurd H (by simp)
            ·rw [if_neg c43] at H
             exact absurd H (by simp)
          ·rw [if_neg c29] at H
           exact absurd H (by simp)
         ·rw [if_neg c28] at H
          exact absurd H (by simp)
        ·rw [if_neg c27] at H
         have c27b0 : decide (x39_1 < (t344.length : Int)) = false := decide_eq_false c27
         clear c27
         by_cases c74 : 0 ≤ a3
         ·rw [if_pos c74] at H
          have c74b0 : decide (0 ≤ a3) = true := decide_eq_true c74
          clear c74
          by_cases c75 : a3 < (x11_1.length : Int)
          ·rw [if_pos c75] at H
           have c75b0 : decide (a3 < (x11_1.length : Int)) = true := decide_eq_true c75
           clear c75
           replace H := Option.bind_eq_some_iff.mp H
           obtain ⟨⟨t349, t350⟩, A760, H⟩ := H
           replace H : (some (t349, t350)) = some (r1, r2) := H
           have A76 := Aside0.mk A760
           clear A760
           simp only [Option.some.injEq, Prod.mk.injEq] at H
           obtain ⟨rfl, rfl⟩ := H
           try go_wp2
           have n0_ := Aside0.mk (Kd.R_drew HO_11.out)
           have n1_ := Aside0.mk (Kd.R_drew HO_37.out)
           have n2_ := Aside0.mk (blk_drew BK337.out)
           have n3_ := Aside0.mk (below_drew1 HB.out)
           clear HO_11; clear HO_37; clear BK337; clear HB
           have HO_11 := n0_
           have HO_37 := n1_
           have BK337 := n2_
           have HB := n3_
           clear n0_ n1_ n2_ n3_
           obtain ⟨Ao78, co78, eo78⟩ := Kd.R_slice HO_11.out
           (first | subst eo78 | (injection eo78 with f1_ f2_ f3_; have f4_ := f1_.symm; have f5_ := f3_.symm; clear f1_ f2_ f3_; subst f4_; subst f5_))
           have p347 : 0 ≤ (a3 : Int) := oZ
           have q347 : a3 < (x11_1.length : Int) := oZ
           obtain ⟨ad347, e347, hx347_0⟩ := Kd.at_int (Kd.R_reads' HO_11.out).2.2 a3 p347 q347
           cases e347
           replace p347 := eq_true p347
           replace q347 := eq_true q347
           have p348 : 0 ≤ (a3 : Int) := oZ
           have q348 : a3 < (x11_1.length : Int) := oZ
           obtain ⟨ad348, e348, hx348_0⟩ := Kd.at_int (Kd.R_reads' HO_11.out).2.2 a3 p348 q348
           obtain rfl : ad347 = ad348 := (by injection e348)
           replace p348 := eq_true p348
           replace q348 := eq_true q348
           refine start_ (n := 14) (S := fun w' => w'.cell? (ad347.add (a3).toNat) = some (.int .i64 (rd x11_1 a3)) ∧ w'.cell? (ad347.add (a3).toNat) = some (.int .i64 (rd x11_1 a3))) (ds := []) #[false, false, false, false, false, false, false, false, false, false, false, false, false, false] (by kernel_rfl) rfl rfl ⟨hx347_0, hx348_0⟩ (fun hHeld => ?_); refine with_tabW impl_DelayTo.tab17 impl_DelayTo.bits17 (fun HT_ HW_ => ?_)
           generalize wr.drew = w77 at HO_11 HO_37 BK337 HB hx347_0 hx348_0 hHeld ⊢
           refine puZ 0 (some 80) #[true, false, false, false, false, false, false, false, false, false, false, false, false, false] rfl rfl HT_.out ?_
           refine puZ 1 (some 81) #[true, true, false, false, false, false, false, false, false, false, false, false, false, false] rfl rfl HT_.out ?_
           refine puZ 2 (some 82) #[true, true, true, false, false, false, false, false, false, false, false, false, false, false] rfl rfl HT_.out ?_
           refine puZ 4 (some 84) #[true, true, true, false, true, false, false, false, false, false, false, false, false, false] rfl rfl HT_.out ?_
           refine puZ 5 (some 85) #[true, true, true, false, true, true, false, false, false, false, false, false, false, false] rfl rfl HT_.out ?_
           refine puZ 6 (some 86) #[true, true, true, false, true, true, true, false, false, false, false, false, false, false] rfl rfl HT_.out ?_
           refine take_ (i := 3) (N := some 83) (v := ?_) (a' := ?_) #[true, true, true, true, true, true, true, false, false, false, false, false, false, false] rfl rfl (take_ofW HT_.out HW_.out (by kernel_rfl)) (fun _ _ _ h => h) (Or.inl ⟨by rfl, ?_⟩) hHeld ?_ ?_
           rotate_left
           ·rintro w' ⟨s0, s1⟩
            go_simp
            with_reducible rfl
           rotate_left
           ·simp only [Act.put, List.setIfInBounds_toArray, List.set_cons_zero, List.set_cons_succ, i64_w, i32_w]
            rfl
           refine take_ (i := 7) (N := some 87) (v := ?_) (a' := ?_) #[true, true, true, true, true, true, true, true, false, false, false, false, false, false] rfl rfl (take_ofW HT_.out HW_.out (by kernel_rfl)) (fun _ _ _ h => h) (Or.inl ⟨by rfl, ?_⟩) hHeld ?_ ?_
           rotate_left
           ·rintro w' ⟨s0, s1⟩
            go_simp
            with_reducible rfl
           rotate_left
           ·simp only [Act.put, List.setIfInBounds_toArray, List.set_cons_zero, List.set_cons_succ, i64_w, i32_w]
            rfl
           refine puZ 8 (some 88) #[true, true, true, true, true, true, true, true, true, false, false, false, false, false] rfl rfl HT_.out ?_
           refine one_ (i := 9) (N := some 89) #[true, true, true, true, true, true, true, true, true, true, false, false, false, false] rfl rfl (one_of HT_.out (by kernel_rfl)) (by decide) (fun K hK => ?_)
           refine goes_ Try.func28 (by kernel_rfl) rfl #[.int .i64 (rd x11_1 a3), .bool (decide ((rd x11_1 a3) ≥ 0))] (by rfl) rfl rfl gZ ?_
           with_reducible refine (impl_orNotFound.calls (rd x11_1 a3) (decide ((rd x11_1 a3) ≥ 0)) t349 t350 _ A76.out).mono ?_
           rintro e w' ⟨rfl, ⟨nd, rfl⟩⟩
           refine ⟨_, rfl, ?_⟩
           refine hK.out _ _ ⟨hHeld.1, hHeld.2⟩ (fun hHeld => ?_)
           clear hK K
           refine norm_ (a' := ?_) ?_ ?_
           rotate_left
           ·show Act.put _ (some 89) _ = _
            simp only [Act.put, List.setIfInBounds_toArray, List.set_cons_zero, List.set_cons_succ, i64_w, i32_w]
            rfl
           refine puZ 10 (some 90) #[true, true, true, true, true, true, true, true, true, true, true, false, false, false] rfl rfl HT_.out ?_
           refine puZ 11 (some 91) #[true, true, true, true, true, true, true, true, true, true, true, true, false, false] rfl rfl HT_.out ?_
           refine puZ 12 (some 8) #[true, true, true, true, true, true, true, true, true, true, true, true, true, false] rfl rfl HT_.out ?_
           refine puZ 13 (some 9) #[true, true, true, true, true, true, true, true, true, true, true, true, true, true] rfl rfl HT_.out ?_
           refine done_ (done_of HT_.out (by kernel_rfl)) ?_
           try go_wp2
           go_ret2
           exact ⟨eZ, bZ⟩
          ·rw [if_neg c75] at H
           exact absurd H (by simp)
         ·rw [if_neg c74] at H
          exact absurd H (by simp)
     ·rw [if_neg c12] at H
      exact absurd H (by simp)
    ·rw [if_neg c11] at H
     exact absurd H (by simp)
   ·rw [if_neg c10] at H
    have c10b0 : (t340 == 0) = false := beq_eq_false_iff_ne.mpr c10
    have c10b1 : (t340 != 0) = true := bne_iff_ne.mpr c10
    simp only [Option.some.injEq, Prod.mk.injEq] at H
    obtain ⟨rfl, rfl⟩ := H
    go_enter Try.func8, Try.ntmps8
    go_wp2_with (first | ((with_reducible refine gate_dst (N := 4) rfl ?_); refine boxZ 4 #[.slice A0_0 l0_0.length c0_0, .slice A0_1 l0_1.length c0_1] 31 rfl rfl ?_; intro gb337 hg w79 hbox hb; have n0_ := Aside0.mk (below_step bZ hb); have n1_ := Aside0.mk (hbox); have n2_ := Aside0.mk ((by rw [hg]; exact bsZ : w.heap.size ≤ gb337)); have n3_ := Aside0.mk ((by rw [hg]; exact bsZ : w.heap.size ≤ gb337)); clear HB; have HB := n0_; have BK337 := n1_; have GW337 := n2_; have GE337 := n3_; clear n0_ n1_ n2_ n3_; clear hb hbox hg; have hcz80_0 := bc0 BK337.out; have hcz80_1 := bc1 BK337.out; have hfz80_0 := blk_frozen BK337.out 0; have hfz80_1 := blk_frozen BK337.out 1) | ((with_reducible refine gate_callee (f := 22) rfl ?_); refine goesL_ (some 17) rfl rfl Try.func22 (by kernel_rfl) rfl #[.agg #[.slice A0_0 l0_0.length c0_0, .slice A0_1 l0_1.length c0_1]] rfl gZ ?_; (with_reducible refine (impl_ValidNetwork.calls k _ _ l0_0 _ _ l0_1 true _ ?side1 ?side2 ?side3 ?side4 A5.out).mono ?_); (case side1 => repeat (first | exact (Kd.C_below HR0_0.out HB.out) | (with_reducible refine Kd.C_alloc ?_ _) | (with_reducible refine Kd.C_drewN ?_ _) | (with_reducible refine Kd.C_drew ?_))); (case side2 => exact HC0_0.out); (case side3 => repeat (first | exact (Kd.C_below HR0_1.out HB.out) | (with_reducible refine Kd.C_alloc ?_ _) | (with_reducible refine Kd.C_drewN ?_ _) | (with_reducible refine Kd.C_drew ?_))); (case side4 => exact HC0_1.out); rintro e w81 ⟨rfl, hb⟩; refine ⟨_, rfl, ?_⟩; have n0_ := Aside0.mk (blk_below (g := gb337) (o := .cells #[.slice A0_0 l0_0.length c0_0, .slice A0_1 l0_1.length c0_1] 31 (0, 0)) (kZ BK337.out) hb); have n1_ := Aside0.mk (below_step bZ hb); clear BK337; clear HB; have BK337 := n0_; have HB := n1_; clear n0_ n1_; (try clear hb); (try clear hb2); (try clear hk); (try clear hi); have hcz82_0 := bc0 BK337.out; have hcz82_1 := bc1 BK337.out; have hfz82_0 := blk_frozen BK337.out 0; have hfz82_1 := blk_frozen BK337.out 1) | ((with_reducible refine gate_callee (f := 23) rfl ?_); refine goesL_ (some 22) rfl rfl Try.func23 (by kernel_rfl) rfl #[.agg #[.slice A0_0 l0_0.length c0_0, .slice A0_1 l0_1.length c0_1], .int .i64 a3] rfl gZ ?_; (with_reducible refine (impl_Network_hasNode.calls _ _ l0_0 _ _ l0_1 a3 true _ ?side1 ?side2 ?side3 ?side4 A7.out).mono ?_); (case side1 => repeat (first | exact (Kd.C_below HR0_0.out HB.out) | (with_reducible refine Kd.C_alloc ?_ _) | (with_reducible refine Kd.C_drewN ?_ _) | (with_reducible refine Kd.C_drew ?_))); (case side2 => exact HC0_0.out); (case side3 => repeat (first | exact (Kd.C_below HR0_1.out HB.out) | (with_reducible refine Kd.C_alloc ?_ _) | (with_reducible refine Kd.C_drewN ?_ _) | (with_reducible refine Kd.C_drew ?_))); (case side4 => exact HC0_1.out); rintro e w83 ⟨rfl, hb⟩; refine ⟨_, rfl, ?_⟩; have n0_ := Aside0.mk (blk_below (g := gb337) (o := .cells #[.slice A0_0 l0_0.length c0_0, .slice A0_1 l0_1.length c0_1] 31 (0, 0)) (kZ BK337.out) hb); have n1_ := Aside0.mk (below_step bZ hb); clear BK337; clear HB; have BK337 := n0_; have HB := n1_; clear n0_ n1_; (try clear hb); (try clear hb2); (try clear hk); (try clear hi); have hcz84_0 := bc0 BK337.out; have hcz84_1 := bc1 BK337.out; have hfz84_0 := blk_frozen BK337.out 0; have hfz84_1 := blk_frozen BK337.out 1) | ((with_reducible refine gate_callee (f := 24) rfl ?_); refine goesL_ (some 27) rfl rfl Try.func24 (by kernel_rfl) rfl #[.agg #[.slice A0_0 l0_0.length c0_0, .slice A0_1 l0_1.length c0_1], .int .i64 a1, .slice A2 l2.length c2, .int .i64 0] rfl gZ ?_; (with_reducible refine (impl_flowsCode.calls k _ _ l0_0 _ _ l0_1 a1 _ _ l2 0 t340 _ ?side1 ?side2 ?side3 ?side4 ?side5 ?side6 A9.out).mono ?_); (case side1 => repeat (first | exact (Kd.C_below HR0_0.out HB.out) | (with_reducible refine Kd.C_alloc ?_ _) | (with_reducible refine Kd.C_drewN ?_ _) | (with_reducible refine Kd.C_drew ?_))); (case side2 => exact HC0_0.out); (case side3 => repeat (first | exact (Kd.C_below HR0_1.out HB.out) | (with_reducible refine Kd.C_alloc ?_ _) | (with_reducible refine Kd.C_drewN ?_ _) | (with_reducible refine Kd.C_drew ?_))); (case side4 => exact HC0_1.out); (case side5 => repeat (first | exact (Kd.C_below HR2.out HB.out) | (with_reducible refine Kd.C_alloc ?_ _) | (with_reducible refine Kd.C_drewN ?_ _) | (with_reducible refine Kd.C_drew ?_))); (case side6 => exact HC2.out); rintro e w85 ⟨rfl, hb⟩; refine ⟨_, rfl, ?_⟩; have n0_ := Aside0.mk (blk_below (g := gb337) (o := .cells #[.slice A0_0 l0_0.length c0_0, .slice A0_1 l0_1.length c0_1] 31 (0, 0)) (kZ BK337.out) hb); have n1_ := Aside0.mk (below_step bZ hb); clear BK337; clear HB; have BK337 := n0_; have HB := n1_; clear n0_ n1_; (try clear hb); (try clear hb2); (try clear hk); (try clear hi)))
    go_ret2
    exact ⟨eZ, bZ⟩
  ·replace c8 := Bool.eq_false_iff.mpr c8
   subst c8
   have H1 : (some (0, 2)) = some (r1, r2) := by rw [if_neg (show ¬ (false = true) by decide)] at H; exact H
   clear H
   have H := H1
   clear H1
   simp only [Option.some.injEq, Prod.mk.injEq] at H
   obtain ⟨rfl, rfl⟩ := H
   go_enter Try.func8, Try.ntmps8
   go_wp2_with (first | ((with_reducible refine gate_dst (N := 4) rfl ?_); refine boxZ 4 #[.slice A0_0 l0_0.length c0_0, .slice A0_1 l0_1.length c0_1] 31 rfl rfl ?_; intro gb337 hg w86 hbox hb; have n0_ := Aside0.mk (below_step bZ hb); have n1_ := Aside0.mk (hbox); have n2_ := Aside0.mk ((by rw [hg]; exact bsZ : w.heap.size ≤ gb337)); have n3_ := Aside0.mk ((by rw [hg]; exact bsZ : w.heap.size ≤ gb337)); clear HB; have HB := n0_; have BK337 := n1_; have GW337 := n2_; have GE337 := n3_; clear n0_ n1_ n2_ n3_; clear hb hbox hg; have hcz87_0 := bc0 BK337.out; have hcz87_1 := bc1 BK337.out; have hfz87_0 := blk_frozen BK337.out 0; have hfz87_1 := blk_frozen BK337.out 1) | ((with_reducible refine gate_callee (f := 22) rfl ?_); refine goesL_ (some 17) rfl rfl Try.func22 (by kernel_rfl) rfl #[.agg #[.slice A0_0 l0_0.length c0_0, .slice A0_1 l0_1.length c0_1]] rfl gZ ?_; (with_reducible refine (impl_ValidNetwork.calls k _ _ l0_0 _ _ l0_1 true _ ?side1 ?side2 ?side3 ?side4 A5.out).mono ?_); (case side1 => repeat (first | exact (Kd.C_below HR0_0.out HB.out) | (with_reducible refine Kd.C_alloc ?_ _) | (with_reducible refine Kd.C_drewN ?_ _) | (with_reducible refine Kd.C_drew ?_))); (case side2 => exact HC0_0.out); (case side3 => repeat (first | exact (Kd.C_below HR0_1.out HB.out) | (with_reducible refine Kd.C_alloc ?_ _) | (with_reducible refine Kd.C_drewN ?_ _) | (with_reducible refine Kd.C_drew ?_))); (case side4 => exact HC0_1.out); rintro e w88 ⟨rfl, hb⟩; refine ⟨_, rfl, ?_⟩; have n0_ := Aside0.mk (blk_below (g := gb337) (o := .cells #[.slice A0_0 l0_0.length c0_0, .slice A0_1 l0_1.length c0_1] 31 (0, 0)) (kZ BK337.out) hb); have n1_ := Aside0.mk (below_step bZ hb); clear BK337; clear HB; have BK337 := n0_; have HB := n1_; clear n0_ n1_; (try clear hb); (try clear hb2); (try clear hk); (try clear hi); have hcz89_0 := bc0 BK337.out; have hcz89_1 := bc1 BK337.out; have hfz89_0 := blk_frozen BK337.out 0; have hfz89_1 := blk_frozen BK337.out 1) | ((with_reducible refine gate_callee (f := 23) rfl ?_); refine goesL_ (some 22) rfl rfl Try.func23 (by kernel_rfl) rfl #[.agg #[.slice A0_0 l0_0.length c0_0, .slice A0_1 l0_1.length c0_1], .int .i64 a3] rfl gZ ?_; (with_reducible refine (impl_Network_hasNode.calls _ _ l0_0 _ _ l0_1 a3 false _ ?side1 ?side2 ?side3 ?side4 A7.out).mono ?_); (case side1 => repeat (first | exact (Kd.C_below HR0_0.out HB.out) | (with_reducible refine Kd.C_alloc ?_ _) | (with_reducible refine Kd.C_drewN ?_ _) | (with_reducible refine Kd.C_drew ?_))); (case side2 => exact HC0_0.out); (case side3 => repeat (first | exact (Kd.C_below HR0_1.out HB.out) | (with_reducible refine Kd.C_alloc ?_ _) | (with_reducible refine Kd.C_drewN ?_ _) | (with_reducible refine Kd.C_drew ?_))); (case side4 => exact HC0_1.out); rintro e w90 ⟨rfl, hb⟩; refine ⟨_, rfl, ?_⟩; have n0_ := Aside0.mk (blk_below (g := gb337) (o := .cells #[.slice A0_0 l0_0.length c0_0, .slice A0_1 l0_1.length c0_1] 31 (0, 0)) (kZ BK337.out) hb); have n1_ := Aside0.mk (below_step bZ hb); clear BK337; clear HB; have BK337 := n0_; have HB := n1_; clear n0_ n1_; (try clear hb); (try clear hb2); (try clear hk); (try clear hi)))
   go_ret2
   exact ⟨eZ, bZ⟩
 ·replace c6 := Bool.eq_false_iff.mpr c6
  subst c6
  have H1 : (some (0, 1)) = some (r1, r2) := by rw [if_neg (show ¬ (false = true) by decide)] at H; exact H
  clear H
  have H := H1
  clear H1
  simp only [Option.some.injEq, Prod.mk.injEq] at H
  obtain ⟨rfl, rfl⟩ := H
  go_enter Try.func8, Try.ntmps8
  go_wp2_with (first | ((with_reducible refine gate_dst (N := 4) rfl ?_); refine boxZ 4 #[.slice A0_0 l0_0.length c0_0, .slice A0_1 l0_1.length c0_1] 31 rfl rfl ?_; intro gb337 hg w91 hbox hb; have n0_ := Aside0.mk (below_step bZ hb); have n1_ := Aside0.mk (hbox); have n2_ := Aside0.mk ((by rw [hg]; exact bsZ : w.heap.size ≤ gb337)); have n3_ := Aside0.mk ((by rw [hg]; exact bsZ : w.heap.size ≤ gb337)); clear HB; have HB := n0_; have BK337 := n1_; have GW337 := n2_; have GE337 := n3_; clear n0_ n1_ n2_ n3_; clear hb hbox hg; have hcz92_0 := bc0 BK337.out; have hcz92_1 := bc1 BK337.out; have hfz92_0 := blk_frozen BK337.out 0; have hfz92_1 := blk_frozen BK337.out 1) | ((with_reducible refine gate_callee (f := 22) rfl ?_); refine goesL_ (some 17) rfl rfl Try.func22 (by kernel_rfl) rfl #[.agg #[.slice A0_0 l0_0.length c0_0, .slice A0_1 l0_1.length c0_1]] rfl gZ ?_; (with_reducible refine (impl_ValidNetwork.calls k _ _ l0_0 _ _ l0_1 false _ ?side1 ?side2 ?side3 ?side4 A5.out).mono ?_); (case side1 => repeat (first | exact (Kd.C_below HR0_0.out HB.out) | (with_reducible refine Kd.C_alloc ?_ _) | (with_reducible refine Kd.C_drewN ?_ _) | (with_reducible refine Kd.C_drew ?_))); (case side2 => exact HC0_0.out); (case side3 => repeat (first | exact (Kd.C_below HR0_1.out HB.out) | (with_reducible refine Kd.C_alloc ?_ _) | (with_reducible refine Kd.C_drewN ?_ _) | (with_reducible refine Kd.C_drew ?_))); (case side4 => exact HC0_1.out); rintro e w93 ⟨rfl, hb⟩; refine ⟨_, rfl, ?_⟩; have n0_ := Aside0.mk (blk_below (g := gb337) (o := .cells #[.slice A0_0 l0_0.length c0_0, .slice A0_1 l0_1.length c0_1] 31 (0, 0)) (kZ BK337.out) hb); have n1_ := Aside0.mk (below_step bZ hb); clear BK337; clear HB; have BK337 := n0_; have HB := n1_; clear n0_ n1_; (try clear hb); (try clear hb2); (try clear hk); (try clear hi)))
  go_ret2
  exact ⟨eZ, bZ⟩
end Go.Proofs.Ythnhchpgpnaamaa.XG
end

section
namespace Go.Proofs.Ythnhchpgpnaamaa.XG
open Go.RowKit Go.Proofs.YthnhchpgpnaamaaW.PrintWords Go.Proofs.YthnhchpgpnaamaaW.PrintLast Go.Proofs.YthnhchpgpnaamaaW.PrintMore
attribute [local go_sem] run_eql_slice_nil binOp_string_gtr' binOp_string_leq' binOp_string_geq' max2_int min2_int max_two min_two max_three min_three max_four min_four   -- for this text's walks alone
set_option linter.unusedVariables false
set_option linter.unusedSimpArgs false
def laws_eqInt64S.l0 : Nat → List Int → List Int → Int → Option (Bool)
 | 0, _, _, _ => none
 | k + 1, x0, x1, x5 => if x5 < (x0.length : Int) then (if 0 ≤ x5 then (if x5 < (x1.length : Int) then (if (rd x0 x5) = (rd x1 x5) then (laws_eqInt64S.l0 k x0 x1 (wrap64 (x5 + 1))) else (none)) else (none)) else (none)) else (some true)
def laws_eqInt64S.f (k : Nat) (l0 : List Int) (l1 : List Int) : Option (Bool) := if (l0.length : Int) = (l1.length : Int) then (laws_eqInt64S.l0 k l0 l1 0) else (none)
set_option maxHeartbeats 8000000 in
set_option maxRecDepth 100000 in
theorem laws_eqInt64S.calls (k : Nat) (A0 : Option Addr) (c0 : Nat) (l0 : List Int) (A1 : Option Addr) (c1 : Nat) (l1 : List Int) (r : Bool) (w : World) (hr0 : Kd.C (Kd.int .i64) w A0 l0.length l0) (hc0 : l0.length ≤ c0) (hr1 : Kd.C (Kd.int .i64) w A1 l1.length l1) (hc1 : l1.length ≤ c1) (h : laws_eqInt64S.f k l0 l1 = some r) :
  Calls Try.prog 10 #[.slice A0 l0.length c0, .slice A1 l1.length c1] w fun e w' => e = .returned (.bool r) ∧ Drawn0 w w' := by
 have HR0 := Aside0.mk hr0
 have HC0 := Aside0.mk hc0
 clear hr0 hc0
 have HR1 := Aside0.mk hr1
 have HC1 := Aside0.mk hc1
 clear hr1 hc1
 have H : (if (l0.length : Int) = (l1.length : Int) then (laws_eqInt64S.l0 k l0 l1 0) else (none)) = some r := h
 clear h
 by_cases c3 : (l0.length : Int) = (l1.length : Int)
 ·rw [if_pos c3] at H
  have c3b0 : ((l0.length : Int) == (l1.length : Int)) = true := beq_iff_eq.mpr c3
  have c3b1 : ((l0.length : Int) != (l1.length : Int)) = false := bne_eq_false_iff_eq.mpr c3
  have c3b2 : (l0.length == l1.length) = true := by first | simpa using c3 | (simp at c3 ⊢; omega)
  clear c3
  have H' := Aside0.mk H
  clear H
  go_enter Try.func10, Try.ntmps10
  iterate 5 (go_wp2; try go_quiet (fail))
  go_loopg [5] k (fun kq v5 w' => ∃ (x5_1 : Int), v5 = .int .i64 x5_1 ∧ Aside0 (laws_eqInt64S.l0 kq l0 l1 x5_1 = some r) ∧ Aside0 (kq ≤ k) ∧ Drawn0 w w')
  case atStart => exact ⟨(0), sZ, H', ⟨Nat.le_refl _⟩, dZ⟩
  case round =>
   clear H'; (try clear c1); (try clear p2); (try clear c3); (try clear c3b0); (try clear c3b1); (try clear c3b2)
   obtain ⟨x5_1, rfl, HA, HK1, ⟨m1, rfl⟩⟩ := hrel
   cases gk with
   | zero => exact absurd HA.out (by simp [laws_eqInt64S.l0])
   | succ k1 =>
    have H := HA.out
    clear HA
    simp only [laws_eqInt64S.l0] at H
    by_cases c4 : x5_1 < (l0.length : Int)
    ·rw [if_pos c4] at H
     have c4b0 : decide (x5_1 < (l0.length : Int)) = true := decide_eq_true c4
     clear c4
     by_cases c5 : 0 ≤ x5_1
     ·rw [if_pos c5] at H
      have c5b0 : decide (0 ≤ x5_1) = true := decide_eq_true c5
      clear c5
      by_cases c6 : x5_1 < (l1.length : Int)
      ·rw [if_pos c6] at H
       have c6b0 : decide (x5_1 < (l1.length : Int)) = true := decide_eq_true c6
       clear c6
       by_cases c7 : (rd l0 x5_1) = (rd l1 x5_1)
       ·rw [if_pos c7] at H
        have c7b0 : ((rd l0 x5_1) == (rd l1 x5_1)) = true := beq_iff_eq.mpr c7
        have c7b1 : ((rd l0 x5_1) != (rd l1 x5_1)) = false := bne_eq_false_iff_eq.mpr c7
        clear c7
        have H' := Aside0.mk H
        clear H
        have p361 : 0 ≤ (x5_1 : Int) := oZ
        have q361 : x5_1 < (l0.length : Int) := oZ
        obtain ⟨ad361, e361, hx361_0⟩ := Kd.at_int HR0.out x5_1 p361 q361
        cases e361
        replace p361 := eq_true p361
        replace q361 := eq_true q361
        have p362 : 0 ≤ (x5_1 : Int) := oZ
        have q362 : x5_1 < (l1.length : Int) := oZ
        obtain ⟨ad362, e362, hx362_0⟩ := Kd.at_int HR1.out x5_1 p362 q362
        cases e362
        replace p362 := eq_true p362
        replace q362 := eq_true q362
        iterate 5 (go_wp2; try go_quiet (fail))
        go_roundg k1
        case measure => have := HK1.out; omega
        case rel => exact ⟨(wrap64 (x5_1 + 1)), sZ, H', ⟨by have := HK1.out; omega⟩, dZ⟩
       ·rw [if_neg c7] at H
        exact absurd H (by simp)
      ·rw [if_neg c6] at H
       exact absurd H (by simp)
     ·rw [if_neg c5] at H
      exact absurd H (by simp)
    ·rw [if_neg c4] at H
     have c4b0 : decide (x5_1 < (l0.length : Int)) = false := decide_eq_false c4
     clear c4
     obtain rfl := Option.some.inj H
     iterate 5 (go_wp2; try go_quiet (fail))
     go_ret
     exact ⟨sZ, dZ⟩
 ·rw [if_neg c3] at H
  exact absurd H (by simp)
def laws_eqPipe.f (a0_0 : ByteArray) (a0_1 : Int) (a0_2 : Int) (a0_3 : Int) (a0_4 : Int) (a0_5 : Int) (a1_0 : ByteArray) (a1_1 : Int) (a1_2 : Int) (a1_3 : Int) (a1_4 : Int) (a1_5 : Int) : Option (Bool) := if a0_0.toList = a1_0.toList then (if a0_1 = a1_1 then (if a0_2 = a1_2 then (if a0_3 = a1_3 then (if a0_4 = a1_4 then (if a0_5 = a1_5 then (some true) else (none)) else (none)) else (none)) else (none)) else (none)) else (none)
set_option maxHeartbeats 8000000 in
set_option maxRecDepth 100000 in
theorem laws_eqPipe.calls (a0_0 : ByteArray) (a0_1 : Int) (a0_2 : Int) (a0_3 : Int) (a0_4 : Int) (a0_5 : Int) (a1_0 : ByteArray) (a1_1 : Int) (a1_2 : Int) (a1_3 : Int) (a1_4 : Int) (a1_5 : Int) (r : Bool) (w : World) (h : laws_eqPipe.f a0_0 a0_1 a0_2 a0_3 a0_4 a0_5 a1_0 a1_1 a1_2 a1_3 a1_4 a1_5 = some r) :
  Calls Try.prog 49 #[.agg #[.string a0_0, .int .i64 a0_1, .int .i64 a0_2, .int .i64 a0_3, .int .i64 a0_4, .int .i64 a0_5], .agg #[.string a1_0, .int .i64 a1_1, .int .i64 a1_2, .int .i64 a1_3, .int .i64 a1_4, .int .i64 a1_5]] w fun e w' => e = .returned (.bool r) ∧ Below w.heap.size w w' := by
 have hu59 := Try.underlying59
 have HB := Aside0.mk (Below.refl w.heap.size w)
 have H : (if a0_0.toList = a1_0.toList then (if a0_1 = a1_1 then (if a0_2 = a1_2 then (if a0_3 = a1_3 then (if a0_4 = a1_4 then (if a0_5 = a1_5 then (some true) else (none)) else (none)) else (none)) else (none)) else (none)) else (none)) = some r := h
 clear h
 by_cases c3 : a0_0.toList = a1_0.toList
 ·rw [if_pos c3] at H
  have c3b0 : (a0_0.toList == a1_0.toList) = true := beq_iff_eq.mpr c3
  have c3b1 : (a0_0.toList != a1_0.toList) = false := bne_eq_false_iff_eq.mpr c3
  clear c3
  by_cases c4 : a0_1 = a1_1
  ·rw [if_pos c4] at H
   have c4b0 : (a0_1 == a1_1) = true := beq_iff_eq.mpr c4
   have c4b1 : (a0_1 != a1_1) = false := bne_eq_false_iff_eq.mpr c4
   clear c4
   by_cases c5 : a0_2 = a1_2
   ·rw [if_pos c5] at H
    have c5b0 : (a0_2 == a1_2) = true := beq_iff_eq.mpr c5
    have c5b1 : (a0_2 != a1_2) = false := bne_eq_false_iff_eq.mpr c5
    clear c5
    by_cases c6 : a0_3 = a1_3
    ·rw [if_pos c6] at H
     have c6b0 : (a0_3 == a1_3) = true := beq_iff_eq.mpr c6
     have c6b1 : (a0_3 != a1_3) = false := bne_eq_false_iff_eq.mpr c6
     clear c6
     by_cases c7 : a0_4 = a1_4
     ·rw [if_pos c7] at H
      have c7b0 : (a0_4 == a1_4) = true := beq_iff_eq.mpr c7
      have c7b1 : (a0_4 != a1_4) = false := bne_eq_false_iff_eq.mpr c7
      clear c7
      by_cases c8 : a0_5 = a1_5
      ·rw [if_pos c8] at H
       have c8b0 : (a0_5 == a1_5) = true := beq_iff_eq.mpr c8
       have c8b1 : (a0_5 != a1_5) = false := bne_eq_false_iff_eq.mpr c8
       clear c8
       obtain rfl := Option.some.inj H
       go_enter Try.func49, Try.ntmps49
       go_wp2_with (first | ((with_reducible refine gate_dst (N := 2) rfl ?_); refine boxZ 2 #[.string a0_0, .int .i64 a0_1, .int .i64 a0_2, .int .i64 a0_3, .int .i64 a0_4, .int .i64 a0_5] 59 rfl rfl ?_; intro gb363 hg w9 hbox hb; have n0_ := Aside0.mk (below_step bZ hb); have n1_ := Aside0.mk (hbox); have n2_ := Aside0.mk ((by rw [hg]; exact bsZ : w.heap.size ≤ gb363)); have n3_ := Aside0.mk ((by rw [hg]; exact bsZ : w.heap.size ≤ gb363)); clear HB; have HB := n0_; have BK363 := n1_; have GW363 := n2_; have GE363 := n3_; clear n0_ n1_ n2_ n3_; clear hb hbox hg) | ((with_reducible refine gate_dst (N := 3) rfl ?_); refine boxZ 3 #[.string a1_0, .int .i64 a1_1, .int .i64 a1_2, .int .i64 a1_3, .int .i64 a1_4, .int .i64 a1_5] 59 rfl rfl ?_; intro gb364 hg w10 hbox hb; have n0_ := Aside0.mk (blk_below (g := gb363) (o := .cells #[.string a0_0, .int .i64 a0_1, .int .i64 a0_2, .int .i64 a0_3, .int .i64 a0_4, .int .i64 a0_5] 59 (0, 0)) (kZ BK363.out) hb); have n1_ := Aside0.mk (below_step bZ hb); have n2_ := Aside0.mk (hbox); have n3_ := Aside0.mk ((by rw [hg]; exact bsZ : w.heap.size ≤ gb364)); have n4_ := Aside0.mk ((by rw [hg]; exact bsZ : w.heap.size ≤ gb364)); have n5_ := Aside0.mk ((by rw [hg]; exact Nat.ne_of_lt (blk_lt (g := gb363) (o := .cells #[.string a0_0, .int .i64 a0_1, .int .i64 a0_2, .int .i64 a0_3, .int .i64 a0_4, .int .i64 a0_5] 59 (0, 0)) (kZ BK363.out)) : gb363 ≠ gb364)); have n6_ := Aside0.mk ((by rw [hg]; exact Nat.ne_of_gt (blk_lt (g := gb363) (o := .cells #[.string a0_0, .int .i64 a0_1, .int .i64 a0_2, .int .i64 a0_3, .int .i64 a0_4, .int .i64 a0_5] 59 (0, 0)) (kZ BK363.out)) : gb364 ≠ gb363)); clear BK363; clear HB; have BK363 := n0_; have HB := n1_; have BK364 := n2_; have GW364 := n3_; have GE364 := n4_; have NB363_364 := n5_; have NB364_363 := n6_; clear n0_ n1_ n2_ n3_ n4_ n5_ n6_; clear hb hbox hg; have hnb11 := NB363_364.out; have hnc11 := NB364_363.out; have hcz12_0 := bc0 BK363.out; have hcz12_1 := bc1 BK363.out; have hcz12_2 := bc2 BK363.out; have hcz12_3 := bc3 BK363.out; have hcz12_4 := bc4 BK363.out; have hcz12_5 := bc5 BK363.out; have hfz12_0 := blk_frozen BK363.out 0; have hfz12_1 := blk_frozen BK363.out 1; have hfz12_2 := blk_frozen BK363.out 2; have hfz12_3 := blk_frozen BK363.out 3; have hfz12_4 := blk_frozen BK363.out 4; have hfz12_5 := blk_frozen BK363.out 5; have hcz13_0 := bc0 BK364.out; have hcz13_1 := bc1 BK364.out; have hcz13_2 := bc2 BK364.out; have hcz13_3 := bc3 BK364.out; have hcz13_4 := bc4 BK364.out; have hcz13_5 := bc5 BK364.out; have hfz13_0 := blk_frozen BK364.out 0; have hfz13_1 := blk_frozen BK364.out 1; have hfz13_2 := blk_frozen BK364.out 2; have hfz13_3 := blk_frozen BK364.out 3; have hfz13_4 := blk_frozen BK364.out 4; have hfz13_5 := blk_frozen BK364.out 5))
       go_ret
       exact ⟨eZ, bZ⟩
      ·rw [if_neg c8] at H
       exact absurd H (by simp)
     ·rw [if_neg c7] at H
      exact absurd H (by simp)
    ·rw [if_neg c6] at H
     exact absurd H (by simp)
   ·rw [if_neg c5] at H
    exact absurd H (by simp)
  ·rw [if_neg c4] at H
   exact absurd H (by simp)
 ·rw [if_neg c3] at H
  exact absurd H (by simp)
end Go.Proofs.Ythnhchpgpnaamaa.XG
end

section
namespace Go.Proofs.Ythnhchpgpnaamaa.XG
open Go.RowKit Go.Proofs.YthnhchpgpnaamaaW.PrintWords Go.Proofs.YthnhchpgpnaamaaW.PrintLast Go.Proofs.YthnhchpgpnaamaaW.PrintMore
attribute [local go_sem] run_eql_slice_nil binOp_string_gtr' binOp_string_leq' binOp_string_geq' max2_int min2_int max_two min_two max_three min_three max_four min_four   -- for this text's walks alone
set_option linter.unusedVariables false
set_option linter.unusedSimpArgs false
def laws_eqPipeS.l0 : Nat → List (S59) → List (S59) → Int → Option (Bool)
 | 0, _, _, _ => none
 | k + 1, x0, x1, x5 => if x5 < (x0.length : Int) then (if 0 ≤ x5 then (if x5 < (x1.length : Int) then ((laws_eqPipe.f ((rd_T59 x0 x5).f0) ((rd_T59 x0 x5).f1) ((rd_T59 x0 x5).f2) ((rd_T59 x0 x5).f3) ((rd_T59 x0 x5).f4) ((rd_T59 x0 x5).f5) ((rd_T59 x1 x5).f0) ((rd_T59 x1 x5).f1) ((rd_T59 x1 x5).f2) ((rd_T59 x1 x5).f3) ((rd_T59 x1 x5).f4) ((rd_T59 x1 x5).f5)).bind fun t367 => (if t367 = true then (laws_eqPipeS.l0 k x0 x1 (wrap64 (x5 + 1))) else (none))) else (none)) else (none)) else (some true)
def laws_eqPipeS.f (k : Nat) (l0 : List (S59)) (l1 : List (S59)) : Option (Bool) := if (l0.length : Int) = (l1.length : Int) then (laws_eqPipeS.l0 k l0 l1 0) else (none)
def laws_eqPipeS.T6 : Bool × List (List Nat × List Nat) := (true, [([], []), ([], []), ([0, 1], [0, 1]), ([2], [2]), ([], []), ([], []), ([4, 5], [4, 5]), ([6], [6]), ([3, 7], [3, 7]), ([8], [8])])
def laws_eqPipeS.B6 : List Nat := [0, 0, 3, 7, 0, 0, 48, 112, 255, 511]
theorem laws_eqPipeS.tab6 : rtab .any (opsOf Try.f29 6) = laws_eqPipeS.T6 := by kernel_rfl
theorem laws_eqPipeS.bits6 : waitsOk laws_eqPipeS.T6.2 laws_eqPipeS.B6 = true := by kernel_rfl
set_option maxHeartbeats 8000000 in
set_option maxRecDepth 100000 in
theorem laws_eqPipeS.calls (k : Nat) (A0 : Option Addr) (c0 : Nat) (l0 : List (S59)) (A1 : Option Addr) (c1 : Nat) (l1 : List (S59)) (r : Bool) (w : World) (hr0 : Kd.C k59 w A0 l0.length l0) (hc0 : l0.length ≤ c0) (hr1 : Kd.C k59 w A1 l1.length l1) (hc1 : l1.length ≤ c1) (h : laws_eqPipeS.f k l0 l1 = some r) :
  Calls Try.prog 29 #[.slice A0 l0.length c0, .slice A1 l1.length c1] w fun e w' => e = .returned (.bool r) ∧ Below w.heap.size w w' := by
 have hu59 := Try.underlying59
 have HR0 := Aside0.mk hr0
 have HC0 := Aside0.mk hc0
 clear hr0 hc0
 have HR1 := Aside0.mk hr1
 have HC1 := Aside0.mk hc1
 clear hr1 hc1
 have HB := Aside0.mk (Below.refl w.heap.size w)
 have H : (if (l0.length : Int) = (l1.length : Int) then (laws_eqPipeS.l0 k l0 l1 0) else (none)) = some r := h
 clear h
 by_cases c3 : (l0.length : Int) = (l1.length : Int)
 ·rw [if_pos c3] at H
  have c3b0 : ((l0.length : Int) == (l1.length : Int)) = true := beq_iff_eq.mpr c3
  have c3b1 : ((l0.length : Int) != (l1.length : Int)) = false := bne_eq_false_iff_eq.mpr c3
  have c3b2 : (l0.length == l1.length) = true := by first | simpa using c3 | (simp at c3 ⊢; omega)
  clear c3
  have H' := Aside0.mk H
  clear H
  go_enter Try.func29, Try.ntmps29
  go_wp2
  go_loopg [5] k (fun kq v5 w' => ∃ (x5_1 : Int), v5 = .int .i64 x5_1 ∧ Aside0 (laws_eqPipeS.l0 kq l0 l1 x5_1 = some r) ∧ Aside0 (kq ≤ k) ∧ Aside0 (Below w.heap.size w w'))
  case atStart => exact ⟨(0), sZ, H', ⟨Nat.le_refl _⟩, ⟨bZ⟩⟩
  case round =>
   clear H'; (try clear c1); (try clear c2); (try clear p2); (try clear c3); (try clear c3b0); (try clear c3b1); (try clear c3b2)
   obtain ⟨x5_1, rfl, HA, HK1, HB⟩ := hrel
   cases gk with
   | zero => exact absurd HA.out (by simp [laws_eqPipeS.l0])
   | succ k1 =>
    have H := HA.out
    clear HA
    simp only [laws_eqPipeS.l0] at H
    by_cases c4 : x5_1 < (l0.length : Int)
    ·rw [if_pos c4] at H
     have c4b0 : decide (x5_1 < (l0.length : Int)) = true := decide_eq_true c4
     clear c4
     by_cases c5 : 0 ≤ x5_1
     ·rw [if_pos c5] at H
      have c5b0 : decide (0 ≤ x5_1) = true := decide_eq_true c5
      clear c5
      by_cases c6 : x5_1 < (l1.length : Int)
      ·rw [if_pos c6] at H
       have c6b0 : decide (x5_1 < (l1.length : Int)) = true := decide_eq_true c6
       clear c6
       replace H := Option.bind_eq_some_iff.mp H
       obtain ⟨t367, A70, H⟩ := H
       replace H : (if t367 = true then (laws_eqPipeS.l0 k1 l0 l1 (wrap64 (x5_1 + 1))) else (none)) = some r := H
       have A7 := Aside0.mk A70
       clear A70
       by_cases c8 : t367 = true
       ·subst c8
        have H1 : (laws_eqPipeS.l0 k1 l0 l1 (wrap64 (x5_1 + 1))) = some r := by rw [if_pos rfl] at H; exact H
        clear H
        have H := H1
        clear H1
        have H' := Aside0.mk H
        clear H
        try go_wp2
        have n0_ := Aside0.mk (below_drew1 HB.out)
        clear HB
        have HB := n0_
        clear n0_
        have p365 : 0 ≤ (x5_1 : Int) := oZ
        have q365 : x5_1 < (l0.length : Int) := oZ
        obtain ⟨ad365, e365, hx365_0, hx365_1, hx365_2, hx365_3, hx365_4, hx365_5⟩ := at_T59 HR0.out x5_1 p365 q365
        have hw365_5 := hx365_5
        have hw365_4 := hx365_4
        have hw365_3 := hx365_3
        have hw365_2 := hx365_2
        have hw365_1 := hx365_1
        have hw365_0 := hx365_0
        cases e365
        replace hx365_0 := (HB.out.cell (World.block_lt_of_cell? w _ hx365_0)).trans hx365_0
        replace hx365_1 := (HB.out.cell (World.block_lt_of_cell? w _ hx365_1)).trans hx365_1
        replace hx365_2 := (HB.out.cell (World.block_lt_of_cell? w _ hx365_2)).trans hx365_2
        replace hx365_3 := (HB.out.cell (World.block_lt_of_cell? w _ hx365_3)).trans hx365_3
        replace hx365_4 := (HB.out.cell (World.block_lt_of_cell? w _ hx365_4)).trans hx365_4
        replace hx365_5 := (HB.out.cell (World.block_lt_of_cell? w _ hx365_5)).trans hx365_5
        replace p365 := eq_true p365
        replace q365 := eq_true q365
        have p366 : 0 ≤ (x5_1 : Int) := oZ
        have q366 : x5_1 < (l1.length : Int) := oZ
        obtain ⟨ad366, e366, hx366_0, hx366_1, hx366_2, hx366_3, hx366_4, hx366_5⟩ := at_T59 HR1.out x5_1 p366 q366
        have hw366_5 := hx366_5
        have hw366_4 := hx366_4
        have hw366_3 := hx366_3
        have hw366_2 := hx366_2
        have hw366_1 := hx366_1
        have hw366_0 := hx366_0
        cases e366
        replace hx366_0 := (HB.out.cell (World.block_lt_of_cell? w _ hx366_0)).trans hx366_0
        replace hx366_1 := (HB.out.cell (World.block_lt_of_cell? w _ hx366_1)).trans hx366_1
        replace hx366_2 := (HB.out.cell (World.block_lt_of_cell? w _ hx366_2)).trans hx366_2
        replace hx366_3 := (HB.out.cell (World.block_lt_of_cell? w _ hx366_3)).trans hx366_3
        replace hx366_4 := (HB.out.cell (World.block_lt_of_cell? w _ hx366_4)).trans hx366_4
        replace hx366_5 := (HB.out.cell (World.block_lt_of_cell? w _ hx366_5)).trans hx366_5
        replace p366 := eq_true p366
        replace q366 := eq_true q366
        refine start_ (n := 10) (S := fun w' => w'.cell? (ad365.add ((x5_1).toNat * 6)) = some (.string ((rd_T59 l0 x5_1).f0)) ∧ w'.cell? ⟨(ad365.add ((x5_1).toNat * 6)).block, (ad365.add ((x5_1).toNat * 6)).off + 1, none⟩ = some (.int .i64 ((rd_T59 l0 x5_1).f1)) ∧ w'.cell? ⟨(ad365.add ((x5_1).toNat * 6)).block, (ad365.add ((x5_1).toNat * 6)).off + 2, none⟩ = some (.int .i64 ((rd_T59 l0 x5_1).f2)) ∧ w'.cell? ⟨(ad365.add ((x5_1).toNat * 6)).block, (ad365.add ((x5_1).toNat * 6)).off + 3, none⟩ = some (.int .i64 ((rd_T59 l0 x5_1).f3)) ∧ w'.cell? ⟨(ad365.add ((x5_1).toNat * 6)).block, (ad365.add ((x5_1).toNat * 6)).off + 4, none⟩ = some (.int .i64 ((rd_T59 l0 x5_1).f4)) ∧ w'.cell? ⟨(ad365.add ((x5_1).toNat * 6)).block, (ad365.add ((x5_1).toNat * 6)).off + 5, none⟩ = some (.int .i64 ((rd_T59 l0 x5_1).f5)) ∧ w'.cell? (ad366.add ((x5_1).toNat * 6)) = some (.string ((rd_T59 l1 x5_1).f0)) ∧ w'.cell? ⟨(ad366.add ((x5_1).toNat * 6)).block, (ad366.add ((x5_1).toNat * 6)).off + 1, none⟩ = some (.int .i64 ((rd_T59 l1 x5_1).f1)) ∧ w'.cell? ⟨(ad366.add ((x5_1).toNat * 6)).block, (ad366.add ((x5_1).toNat * 6)).off + 2, none⟩ = some (.int .i64 ((rd_T59 l1 x5_1).f2)) ∧ w'.cell? ⟨(ad366.add ((x5_1).toNat * 6)).block, (ad366.add ((x5_1).toNat * 6)).off + 3, none⟩ = some (.int .i64 ((rd_T59 l1 x5_1).f3)) ∧ w'.cell? ⟨(ad366.add ((x5_1).toNat * 6)).block, (ad366.add ((x5_1).toNat * 6)).off + 4, none⟩ = some (.int .i64 ((rd_T59 l1 x5_1).f4)) ∧ w'.cell? ⟨(ad366.add ((x5_1).toNat * 6)).block, (ad366.add ((x5_1).toNat * 6)).off + 5, none⟩ = some (.int .i64 ((rd_T59 l1 x5_1).f5))) (ds := []) #[false, false, false, false, false, false, false, false, false, false] (by kernel_rfl) rfl rfl ⟨((HB.out.cell (World.block_lt_of_cell? w _ hw365_0)).trans hw365_0), ((HB.out.cell (World.block_lt_of_cell? w _ hw365_1)).trans hw365_1), ((HB.out.cell (World.block_lt_of_cell? w _ hw365_2)).trans hw365_2), ((HB.out.cell (World.block_lt_of_cell? w _ hw365_3)).trans hw365_3), ((HB.out.cell (World.block_lt_of_cell? w _ hw365_4)).trans hw365_4), ((HB.out.cell (World.block_lt_of_cell? w _ hw365_5)).trans hw365_5), ((HB.out.cell (World.block_lt_of_cell? w _ hw366_0)).trans hw366_0), ((HB.out.cell (World.block_lt_of_cell? w _ hw366_1)).trans hw366_1), ((HB.out.cell (World.block_lt_of_cell? w _ hw366_2)).trans hw366_2), ((HB.out.cell (World.block_lt_of_cell? w _ hw366_3)).trans hw366_3), ((HB.out.cell (World.block_lt_of_cell? w _ hw366_4)).trans hw366_4), ((HB.out.cell (World.block_lt_of_cell? w _ hw366_5)).trans hw366_5)⟩ (fun hHeld => ?_); refine with_tabW laws_eqPipeS.tab6 laws_eqPipeS.bits6 (fun HT_ HW_ => ?_)
        generalize wr.drew = w9 at HB hx365_0 hx365_1 hx365_2 hx365_3 hx365_4 hx365_5 hx366_0 hx366_1 hx366_2 hx366_3 hx366_4 hx366_5 hHeld ⊢
        refine puZ 0 (some 17) #[true, false, false, false, false, false, false, false, false, false] rfl rfl HT_.out ?_
        refine puZ 1 (some 18) #[true, true, false, false, false, false, false, false, false, false] rfl rfl HT_.out ?_
        refine puZ 2 (some 19) #[true, true, true, false, false, false, false, false, false, false] rfl rfl HT_.out ?_
        refine puZ 4 (some 21) #[true, true, true, false, true, false, false, false, false, false] rfl rfl HT_.out ?_
        refine puZ 5 (some 22) #[true, true, true, false, true, true, false, false, false, false] rfl rfl HT_.out ?_
        refine puZ 6 (some 23) #[true, true, true, false, true, true, true, false, false, false] rfl rfl HT_.out ?_
        refine take_ (i := 3) (N := some 20) (v := ?_) (a' := ?_) #[true, true, true, true, true, true, true, false, false, false] rfl rfl (take_ofW HT_.out HW_.out (by kernel_rfl)) (fun _ _ _ h => h) (Or.inl ⟨by rfl, ?_⟩) hHeld ?_ ?_
        rotate_left
        ·rintro w' ⟨s0, s1, s2, s3, s4, s5, s6, s7, s8, s9, s10, s11⟩
         go_simp
         with_reducible rfl
        rotate_left
        ·simp only [Act.put, List.setIfInBounds_toArray, List.set_cons_zero, List.set_cons_succ, i64_w, i32_w]
         rfl
        refine take_ (i := 7) (N := some 24) (v := ?_) (a' := ?_) #[true, true, true, true, true, true, true, true, false, false] rfl rfl (take_ofW HT_.out HW_.out (by kernel_rfl)) (fun _ _ _ h => h) (Or.inl ⟨by rfl, ?_⟩) hHeld ?_ ?_
        rotate_left
        ·rintro w' ⟨s0, s1, s2, s3, s4, s5, s6, s7, s8, s9, s10, s11⟩
         go_simp
         with_reducible rfl
        rotate_left
        ·simp only [Act.put, List.setIfInBounds_toArray, List.set_cons_zero, List.set_cons_succ, i64_w, i32_w]
         rfl
        refine one_ (i := 8) (N := some 25) #[true, true, true, true, true, true, true, true, true, false] rfl rfl (one_of HT_.out (by kernel_rfl)) (by decide) (fun K hK => ?_)
        refine goes_ Try.func49 (by kernel_rfl) rfl #[.agg #[.string ((rd_T59 l0 x5_1).f0), .int .i64 ((rd_T59 l0 x5_1).f1), .int .i64 ((rd_T59 l0 x5_1).f2), .int .i64 ((rd_T59 l0 x5_1).f3), .int .i64 ((rd_T59 l0 x5_1).f4), .int .i64 ((rd_T59 l0 x5_1).f5)], .agg #[.string ((rd_T59 l1 x5_1).f0), .int .i64 ((rd_T59 l1 x5_1).f1), .int .i64 ((rd_T59 l1 x5_1).f2), .int .i64 ((rd_T59 l1 x5_1).f3), .int .i64 ((rd_T59 l1 x5_1).f4), .int .i64 ((rd_T59 l1 x5_1).f5)]] (by rfl) rfl rfl gZ ?_
        with_reducible refine (laws_eqPipe.calls ((rd_T59 l0 x5_1).f0) ((rd_T59 l0 x5_1).f1) ((rd_T59 l0 x5_1).f2) ((rd_T59 l0 x5_1).f3) ((rd_T59 l0 x5_1).f4) ((rd_T59 l0 x5_1).f5) ((rd_T59 l1 x5_1).f0) ((rd_T59 l1 x5_1).f1) ((rd_T59 l1 x5_1).f2) ((rd_T59 l1 x5_1).f3) ((rd_T59 l1 x5_1).f4) ((rd_T59 l1 x5_1).f5) true _ A7.out).mono ?_
        rintro e w10 ⟨rfl, hb⟩
        refine ⟨_, rfl, ?_⟩
        have n0_ := Aside0.mk (below_step bZ hb)
        clear HB
        have HB := n0_
        clear n0_
        (try clear hb)
        (try clear hb2)
        (try clear hk)
        (try clear hi)
        refine hK.out _ _ ⟨((HB.out.cell (World.block_lt_of_cell? w _ hw365_0)).trans hw365_0), ((HB.out.cell (World.block_lt_of_cell? w _ hw365_1)).trans hw365_1), ((HB.out.cell (World.block_lt_of_cell? w _ hw365_2)).trans hw365_2), ((HB.out.cell (World.block_lt_of_cell? w _ hw365_3)).trans hw365_3), ((HB.out.cell (World.block_lt_of_cell? w _ hw365_4)).trans hw365_4), ((HB.out.cell (World.block_lt_of_cell? w _ hw365_5)).trans hw365_5), ((HB.out.cell (World.block_lt_of_cell? w _ hw366_0)).trans hw366_0), ((HB.out.cell (World.block_lt_of_cell? w _ hw366_1)).trans hw366_1), ((HB.out.cell (World.block_lt_of_cell? w _ hw366_2)).trans hw366_2), ((HB.out.cell (World.block_lt_of_cell? w _ hw366_3)).trans hw366_3), ((HB.out.cell (World.block_lt_of_cell? w _ hw366_4)).trans hw366_4), ((HB.out.cell (World.block_lt_of_cell? w _ hw366_5)).trans hw366_5)⟩ (fun hHeld => ?_)
        clear hK K
        refine norm_ (a' := ?_) ?_ ?_
        rotate_left
        ·show Act.put _ (some 25) _ = _
         simp only [Act.put, List.setIfInBounds_toArray, List.set_cons_zero, List.set_cons_succ, i64_w, i32_w]
         rfl
        refine puZ 9 (some 26) #[true, true, true, true, true, true, true, true, true, true] rfl rfl HT_.out ?_
        refine done_ (done_of HT_.out (by kernel_rfl)) ?_
        try go_wp2
        go_roundg k1
        case measure => have := HK1.out; omega
        case rel => exact ⟨(wrap64 (x5_1 + 1)), sZ, H', ⟨by have := HK1.out; omega⟩, ⟨bZ⟩⟩
       ·replace c8 := Bool.eq_false_iff.mpr c8
        subst c8
        have H1 : (none) = some r := by rw [if_neg (show ¬ (false = true) by decide)] at H; exact H
        clear H
        have H := H1
        clear H1
        exact absurd H (by simp)
      ·rw [if_neg c6] at H
       exact absurd H (by simp)
     ·rw [if_neg c5] at H
      exact absurd H (by simp)
    ·rw [if_neg c4] at H
     have c4b0 : decide (x5_1 < (l0.length : Int)) = false := decide_eq_false c4
     clear c4
     obtain rfl := Option.some.inj H
     go_wp2
     go_ret
     exact ⟨eZ, bZ⟩
 ·rw [if_neg c3] at H
  exact absurd H (by simp)
end Go.Proofs.Ythnhchpgpnaamaa.XG
end

section
namespace Go.Proofs.Ythnhchpgpnaamaa.XG
open Go.RowKit Go.Proofs.YthnhchpgpnaamaaW.PrintWords Go.Proofs.YthnhchpgpnaamaaW.PrintLast Go.Proofs.YthnhchpgpnaamaaW.PrintMore
attribute [local go_sem] run_eql_slice_nil binOp_string_gtr' binOp_string_leq' binOp_string_geq' max2_int min2_int max_two min_two max_three min_three max_four min_four   -- for this text's walks alone
set_option linter.unusedVariables false
set_option linter.unusedSimpArgs false
def laws_eqNetwork.f (k : Nat) (l0_0 : List Int) (l0_1 : List (S59)) (l1_0 : List Int) (l1_1 : List (S59)) : Option (Bool) := (laws_eqInt64S.f k l0_0 l1_0).bind fun t370 => (if t370 = true then ((laws_eqPipeS.f k l0_1 l1_1).bind fun t371 => (if t371 = true then (some true) else (none))) else (none))
set_option maxHeartbeats 8000000 in
set_option maxRecDepth 100000 in
theorem laws_eqNetwork.calls (k : Nat) (A0_0 : Option Addr) (c0_0 : Nat) (l0_0 : List Int) (A0_1 : Option Addr) (c0_1 : Nat) (l0_1 : List (S59)) (A1_0 : Option Addr) (c1_0 : Nat) (l1_0 : List Int) (A1_1 : Option Addr) (c1_1 : Nat) (l1_1 : List (S59)) (r : Bool) (w : World) (hr0_0 : Kd.C (Kd.int .i64) w A0_0 l0_0.length l0_0) (hc0_0 : l0_0.length ≤ c0_0) (hr0_1 : Kd.C k59 w A0_1 l0_1.length l0_1) (hc0_1 : l0_1.length ≤ c0_1) (hr1_0 : Kd.C (Kd.int .i64) w A1_0 l1_0.length l1_0) (hc1_0 : l1_0.length ≤ c1_0) (hr1_1 : Kd.C k59 w A1_1 l1_1.length l1_1) (hc1_1 : l1_1.length ≤ c1_1) (h : laws_eqNetwork.f k l0_0 l0_1 l1_0 l1_1 = some r) :
  Calls Try.prog 9 #[.agg #[.slice A0_0 l0_0.length c0_0, .slice A0_1 l0_1.length c0_1], .agg #[.slice A1_0 l1_0.length c1_0, .slice A1_1 l1_1.length c1_1]] w fun e w' => e = .returned (.bool r) ∧ Below w.heap.size w w' := by
 have hu31 := Try.underlying31
 have HR0_0 := Aside0.mk hr0_0
 have HC0_0 := Aside0.mk hc0_0
 clear hr0_0 hc0_0
 have HR0_1 := Aside0.mk hr0_1
 have HC0_1 := Aside0.mk hc0_1
 clear hr0_1 hc0_1
 have HR1_0 := Aside0.mk hr1_0
 have HC1_0 := Aside0.mk hc1_0
 clear hr1_0 hc1_0
 have HR1_1 := Aside0.mk hr1_1
 have HC1_1 := Aside0.mk hc1_1
 clear hr1_1 hc1_1
 have HB := Aside0.mk (Below.refl w.heap.size w)
 have H : ((laws_eqInt64S.f k l0_0 l1_0).bind fun t370 => (if t370 = true then ((laws_eqPipeS.f k l0_1 l1_1).bind fun t371 => (if t371 = true then (some true) else (none))) else (none))) = some r := h
 clear h
 replace H := Option.bind_eq_some_iff.mp H
 obtain ⟨t370, A30, H⟩ := H
 replace H : (if t370 = true then ((laws_eqPipeS.f k l0_1 l1_1).bind fun t371 => (if t371 = true then (some true) else (none))) else (none)) = some r := H
 have A3 := Aside0.mk A30
 clear A30
 by_cases c4 : t370 = true
 ·subst c4
  have H1 : ((laws_eqPipeS.f k l0_1 l1_1).bind fun t371 => (if t371 = true then (some true) else (none))) = some r := by rw [if_pos rfl] at H; exact H
  clear H
  have H := H1
  clear H1
  replace H := Option.bind_eq_some_iff.mp H
  obtain ⟨t371, A50, H⟩ := H
  replace H : (if t371 = true then (some true) else (none)) = some r := H
  have A5 := Aside0.mk A50
  clear A50
  by_cases c6 : t371 = true
  ·subst c6
   have H1 : (some true) = some r := by rw [if_pos rfl] at H; exact H
   clear H
   have H := H1
   clear H1
   obtain rfl := Option.some.inj H
   go_enter Try.func9, Try.ntmps9
   go_wp2_with (first | ((with_reducible refine gate_dst (N := 2) rfl ?_); refine boxZ 2 #[.slice A0_0 l0_0.length c0_0, .slice A0_1 l0_1.length c0_1] 31 rfl rfl ?_; intro gb368 hg w7 hbox hb; have n0_ := Aside0.mk (below_step bZ hb); have n1_ := Aside0.mk (hbox); have n2_ := Aside0.mk ((by rw [hg]; exact bsZ : w.heap.size ≤ gb368)); have n3_ := Aside0.mk ((by rw [hg]; exact bsZ : w.heap.size ≤ gb368)); clear HB; have HB := n0_; have BK368 := n1_; have GW368 := n2_; have GE368 := n3_; clear n0_ n1_ n2_ n3_; clear hb hbox hg) | ((with_reducible refine gate_dst (N := 3) rfl ?_); refine boxZ 3 #[.slice A1_0 l1_0.length c1_0, .slice A1_1 l1_1.length c1_1] 31 rfl rfl ?_; intro gb369 hg w8 hbox hb; have n0_ := Aside0.mk (blk_below (g := gb368) (o := .cells #[.slice A0_0 l0_0.length c0_0, .slice A0_1 l0_1.length c0_1] 31 (0, 0)) (kZ BK368.out) hb); have n1_ := Aside0.mk (below_step bZ hb); have n2_ := Aside0.mk (hbox); have n3_ := Aside0.mk ((by rw [hg]; exact bsZ : w.heap.size ≤ gb369)); have n4_ := Aside0.mk ((by rw [hg]; exact bsZ : w.heap.size ≤ gb369)); have n5_ := Aside0.mk ((by rw [hg]; exact Nat.ne_of_lt (blk_lt (g := gb368) (o := .cells #[.slice A0_0 l0_0.length c0_0, .slice A0_1 l0_1.length c0_1] 31 (0, 0)) (kZ BK368.out)) : gb368 ≠ gb369)); have n6_ := Aside0.mk ((by rw [hg]; exact Nat.ne_of_gt (blk_lt (g := gb368) (o := .cells #[.slice A0_0 l0_0.length c0_0, .slice A0_1 l0_1.length c0_1] 31 (0, 0)) (kZ BK368.out)) : gb369 ≠ gb368)); clear BK368; clear HB; have BK368 := n0_; have HB := n1_; have BK369 := n2_; have GW369 := n3_; have GE369 := n4_; have NB368_369 := n5_; have NB369_368 := n6_; clear n0_ n1_ n2_ n3_ n4_ n5_ n6_; clear hb hbox hg; have hnb9 := NB368_369.out; have hnc9 := NB369_368.out; have hcz10_0 := bc0 BK368.out; have hcz10_1 := bc1 BK368.out; have hfz10_0 := blk_frozen BK368.out 0; have hfz10_1 := blk_frozen BK368.out 1; have hcz11_0 := bc0 BK369.out; have hcz11_1 := bc1 BK369.out; have hfz11_0 := blk_frozen BK369.out 0; have hfz11_1 := blk_frozen BK369.out 1) | ((with_reducible refine gate_callee (f := 10) rfl ?_); refine goesL_ (some 9) rfl rfl Try.func10 (by kernel_rfl) rfl #[.slice A0_0 l0_0.length c0_0, .slice A1_0 l1_0.length c1_0] rfl gZ ?_; (with_reducible refine (laws_eqInt64S.calls k _ _ l0_0 _ _ l1_0 true _ ?side1 ?side2 ?side3 ?side4 A3.out).mono ?_); (case side1 => repeat (first | exact (Kd.C_below HR0_0.out HB.out) | (with_reducible refine Kd.C_alloc ?_ _) | (with_reducible refine Kd.C_drewN ?_ _) | (with_reducible refine Kd.C_drew ?_))); (case side2 => exact HC0_0.out); (case side3 => repeat (first | exact (Kd.C_below HR1_0.out HB.out) | (with_reducible refine Kd.C_alloc ?_ _) | (with_reducible refine Kd.C_drewN ?_ _) | (with_reducible refine Kd.C_drew ?_))); (case side4 => exact HC1_0.out); rintro e w' ⟨rfl, ⟨nd, rfl⟩⟩; refine ⟨_, rfl, ?_⟩) | ((with_reducible refine gate_callee (f := 29) rfl ?_); refine goesL_ (some 15) rfl rfl Try.func29 (by kernel_rfl) rfl #[.slice A0_1 l0_1.length c0_1, .slice A1_1 l1_1.length c1_1] rfl gZ ?_; (with_reducible refine (laws_eqPipeS.calls k _ _ l0_1 _ _ l1_1 true _ ?side1 ?side2 ?side3 ?side4 A5.out).mono ?_); (case side1 => repeat (first | exact (Kd.C_below HR0_1.out bZ) | (with_reducible refine Kd.C_alloc ?_ _) | (with_reducible refine Kd.C_drewN ?_ _) | (with_reducible refine Kd.C_drew ?_))); (case side2 => exact HC0_1.out); (case side3 => repeat (first | exact (Kd.C_below HR1_1.out bZ) | (with_reducible refine Kd.C_alloc ?_ _) | (with_reducible refine Kd.C_drewN ?_ _) | (with_reducible refine Kd.C_drew ?_))); (case side4 => exact HC1_1.out); rintro e w12 ⟨rfl, hb⟩; refine ⟨_, rfl, ?_⟩; have n0_ := Aside0.mk (blk_below (g := gb368) (o := .cells #[.slice A0_0 l0_0.length c0_0, .slice A0_1 l0_1.length c0_1] 31 (0, 0)) (kZ BK368.out) hb); have n1_ := Aside0.mk (blk_below (g := gb369) (o := .cells #[.slice A1_0 l1_0.length c1_0, .slice A1_1 l1_1.length c1_1] 31 (0, 0)) (kZ BK369.out) hb); have n2_ := Aside0.mk (below_step bZ hb); clear BK368; clear BK369; clear HB; have BK368 := n0_; have BK369 := n1_; have HB := n2_; clear n0_ n1_ n2_; (try clear hb); (try clear hb2); (try clear hk); (try clear hi)))
   go_ret
   exact ⟨eZ, bZ⟩
  ·replace c6 := Bool.eq_false_iff.mpr c6
   subst c6
   have H1 : (none) = some r := by rw [if_neg (show ¬ (false = true) by decide)] at H; exact H
   clear H
   have H := H1
   clear H1
   exact absurd H (by simp)
 ·replace c4 := Bool.eq_false_iff.mpr c4
  subst c4
  have H1 : (none) = some r := by rw [if_neg (show ¬ (false = true) by decide)] at H; exact H
  clear H
  have H := H1
  clear H1
  exact absurd H (by simp)
end Go.Proofs.Ythnhchpgpnaamaa.XG
end
