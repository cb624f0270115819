/- The law FnExactSameDesk: part 2 of its texts, joined (wip/pack.py). -/
import Derived.Test.YtmfhncjkfhdlcaaKFnExactSameDeska
import Derived.Test.YtmfhncjkfhdlcaaKFnExactSameDeskb

section
namespace Go.Proofs.Ytmfhncjkfhdlcaa.XM
open Go.RowKit Go.Proofs.YtmfhncjkfhdlcaaW.PrintWords Go.Proofs.YtmfhncjkfhdlcaaW.PrintLast Go.Proofs.YtmfhncjkfhdlcaaW.PrintMore
attribute [local go_sem] run_eql_slice_nil binOp_string_gtr' binOp_string_leq' binOp_string_geq' max2_int min2_int max_two min_two max_three min_three max_four min_four   -- for this text's walks alone
set_option linter.unusedVariables false
set_option linter.unusedSimpArgs false
def laws_szDesk.f (k : Nat) (l0_0 : List Int) (l0_1 : List (S136)) (l0_2 : List Int) (l0_3 : List (S104)) (l0_4 : List (S106)) (l0_5 : List (S108)) (a0_6 : Int) (a0_7 : Int) (a0_8 : Int) (l0_9 : List (S110)) (l0_10 : List (S112)) (l0_11 : List (S114)) (l0_12 : List (S116)) (a1 : Int) : Option Int := (laws_szNetwork.f k l0_0 l0_1 a1).bind fun b0 => if b0 < 0 then some (-1) else ((laws_szInt64S.f l0_2 b0).bind fun b1 => if b1 < 0 then some (-1) else ((laws_szValveS.f k l0_3 b1).bind fun b2 => if b2 < 0 then some (-1) else ((laws_szPumpS.f k l0_4 b2).bind fun b3 => if b3 < 0 then some (-1) else ((laws_szSubstationS.f k l0_5 b3).bind fun b4 => if b4 < 0 then some (-1) else ((laws_szFuelS.f k l0_9 b4).bind fun b5 => if b5 < 0 then some (-1) else ((laws_szRepairS.f k l0_10 b5).bind fun b6 => if b6 < 0 then some (-1) else ((laws_szTenantS.f k l0_11 b6).bind fun b7 => if b7 < 0 then some (-1) else ((laws_szDutyS.f k l0_12 b7).bind fun b8 => if b8 < 0 then some (-1) else (some b8)))))))))
set_option maxHeartbeats 8000000 in
set_option maxRecDepth 100000 in
theorem laws_szDesk.calls (k : Nat) (A0_0 : Option Addr) (c0_0 : Nat) (l0_0 : List Int) (A0_1 : Option Addr) (c0_1 : Nat) (l0_1 : List (S136)) (A0_2 : Option Addr) (c0_2 : Nat) (l0_2 : List Int) (A0_3 : Option Addr) (c0_3 : Nat) (l0_3 : List (S104)) (A0_4 : Option Addr) (c0_4 : Nat) (l0_4 : List (S106)) (A0_5 : Option Addr) (c0_5 : Nat) (l0_5 : List (S108)) (a0_6 : Int) (a0_7 : Int) (a0_8 : Int) (A0_9 : Option Addr) (c0_9 : Nat) (l0_9 : List (S110)) (A0_10 : Option Addr) (c0_10 : Nat) (l0_10 : List (S112)) (A0_11 : Option Addr) (c0_11 : Nat) (l0_11 : List (S114)) (A0_12 : Option Addr) (c0_12 : Nat) (l0_12 : List (S116)) (a1 : Int) (r : Int) (w : World) (hr0_0 : Kd.C (Kd.int .i64) w A0_0 l0_0.length l0_0) (hc0_0 : l0_0.length ≤ c0_0) (hr0_1 : Kd.C k136 w A0_1 l0_1.length l0_1) (hc0_1 : l0_1.length ≤ c0_1) (hr0_2 : Kd.C (Kd.int .i64) w A0_2 l0_2.length l0_2) (hc0_2 : l0_2.length ≤ c0_2) (hr0_3 : Kd.C k104 w A0_3 l0_3.length l0_3) (hc0_3 : l0_3.length ≤ c0_3) (hr0_4 : Kd.C k106 w A0_4 l0_4.length l0_4) (hc0_4 : l0_4.length ≤ c0_4) (hr0_5 : Kd.C k108 w A0_5 l0_5.length l0_5) (hc0_5 : l0_5.length ≤ c0_5) (hr0_9 : Kd.C k110 w A0_9 l0_9.length l0_9) (hc0_9 : l0_9.length ≤ c0_9) (hr0_10 : Kd.C k112 w A0_10 l0_10.length l0_10) (hc0_10 : l0_10.length ≤ c0_10) (hr0_11 : Kd.C k114 w A0_11 l0_11.length l0_11) (hc0_11 : l0_11.length ≤ c0_11) (hr0_12 : Kd.C k116 w A0_12 l0_12.length l0_12) (hc0_12 : l0_12.length ≤ c0_12) (h : laws_szDesk.f k l0_0 l0_1 l0_2 l0_3 l0_4 l0_5 a0_6 a0_7 a0_8 l0_9 l0_10 l0_11 l0_12 a1 = some r) :
  Calls Try.prog 4 #[.agg #[.slice A0_0 l0_0.length c0_0, .slice A0_1 l0_1.length c0_1, .slice A0_2 l0_2.length c0_2, .slice A0_3 l0_3.length c0_3, .slice A0_4 l0_4.length c0_4, .slice A0_5 l0_5.length c0_5, .int .i64 a0_6, .int .i64 a0_7, .int .i64 a0_8, .slice A0_9 l0_9.length c0_9, .slice A0_10 l0_10.length c0_10, .slice A0_11 l0_11.length c0_11, .slice A0_12 l0_12.length c0_12], .int .i64 a1] w fun e w' => e = .returned (.int .i64 r) ∧ Below w.heap.size w w' := by
 have huDesk := Try.underlying36
 have huNetwork := Try.underlying25
 unfold laws_szDesk.f at h
 have h := Aside0.mk h
 have HR0_0 := Aside0.mk hr0_0
 have HC0_0 := Aside0.mk hc0_0
 have HR0_1 := Aside0.mk hr0_1
 have HC0_1 := Aside0.mk hc0_1
 have HR0_2 := Aside0.mk hr0_2
 have HC0_2 := Aside0.mk hc0_2
 have HR0_3 := Aside0.mk hr0_3
 have HC0_3 := Aside0.mk hc0_3
 have HR0_4 := Aside0.mk hr0_4
 have HC0_4 := Aside0.mk hc0_4
 have HR0_5 := Aside0.mk hr0_5
 have HC0_5 := Aside0.mk hc0_5
 have HR0_9 := Aside0.mk hr0_9
 have HC0_9 := Aside0.mk hc0_9
 have HR0_10 := Aside0.mk hr0_10
 have HC0_10 := Aside0.mk hc0_10
 have HR0_11 := Aside0.mk hr0_11
 have HC0_11 := Aside0.mk hc0_11
 have HR0_12 := Aside0.mk hr0_12
 have HC0_12 := Aside0.mk hc0_12
 clear hr0_0 hc0_0 hr0_1 hc0_1 hr0_2 hc0_2 hr0_3 hc0_3 hr0_4 hc0_4 hr0_5 hc0_5 hr0_9 hc0_9 hr0_10 hc0_10 hr0_11 hc0_11 hr0_12 hc0_12
 go_enter Try.func4, Try.ntmps4
 go_upto_region 1 with (first | ((with_reducible refine gate_dst (N := 2) rfl ?_); refine boxZ 2 #[.slice A0_0 l0_0.length c0_0, .slice A0_1 l0_1.length c0_1, .slice A0_2 l0_2.length c0_2, .slice A0_3 l0_3.length c0_3, .slice A0_4 l0_4.length c0_4, .slice A0_5 l0_5.length c0_5, .int .i64 a0_6, .int .i64 a0_7, .int .i64 a0_8, .slice A0_9 l0_9.length c0_9, .slice A0_10 l0_10.length c0_10, .slice A0_11 l0_11.length c0_11, .slice A0_12 l0_12.length c0_12] 36 rfl rfl ?_; intro g0 hg w1 hk hb; clear hg))
 have HB := Aside0.mk hb
 have BK := Aside0.mk hk
 clear hk hb
 obtain ⟨b0, A0, h⟩ := Option.bind_eq_some_iff.mp h.out
 have A0 := Aside0.mk A0
 replace h := Aside0.mk h
 have z0 : w1.cell? ⟨g0, 0, none⟩ = some (.slice A0_0 l0_0.length c0_0) := (blk_cell BK.out 0).trans rfl
 have z1 : w1.cell? ⟨g0, 1, none⟩ = some (.slice A0_1 l0_1.length c0_1) := (blk_cell BK.out 1).trans rfl
 go_wp2_with fail
 refine (laws_szNetwork.calls k A0_0 c0_0 l0_0 A0_1 c0_1 l0_1 a1 b0 _ (Kd.C_below HR0_0.out HB.out) HC0_0.out (Kd.C_below HR0_1.out HB.out) HC0_1.out A0.out).mono ?_
 rintro e w2 ⟨rfl, hb⟩
 clear z0 z1 A0
 replace BK := Aside0.mk (blk_below BK.out hb)
 replace HB := Aside0.mk (below_step HB.out hb)
 clear hb
 by_cases c : b0 < 0
 ·obtain rfl : (-1) = r := by have := h.out; rw [if_pos c] at this; exact Option.some.inj this
  have cb : decide (b0 < 0) = true := decide_eq_true c
  clear h c
  go_wp2
  go_ret
  exact ⟨eZ, HB.out⟩
 have cb0 : decide (b0 < 0) = false := decide_eq_false c
 replace h := h.out
 rw [if_neg c] at h
 replace h := Aside0.mk h
 clear c
 obtain ⟨b1, A1, h⟩ := Option.bind_eq_some_iff.mp h.out
 have A1 := Aside0.mk A1
 replace h := Aside0.mk h
 have z2 : w2.cell? ⟨g0, 2, none⟩ = some (.slice A0_2 l0_2.length c0_2) := (blk_cell BK.out 2).trans rfl
 go_wp2_with fail
 refine (laws_szInt64S.calls A0_2 c0_2 l0_2 b0 b1 _ (Kd.C_below HR0_2.out HB.out) HC0_2.out A1.out).mono ?_
 rintro e w3 ⟨rfl, hb⟩
 replace hb := hb.below
 clear z2 A1
 replace BK := Aside0.mk (blk_below BK.out hb)
 replace HB := Aside0.mk (below_step HB.out hb)
 clear hb
 by_cases c : b1 < 0
 ·obtain rfl : (-1) = r := by have := h.out; rw [if_pos c] at this; exact Option.some.inj this
  have cb : decide (b1 < 0) = true := decide_eq_true c
  clear h c
  go_wp2
  go_ret
  exact ⟨eZ, HB.out⟩
 have cb1 : decide (b1 < 0) = false := decide_eq_false c
 replace h := h.out
 rw [if_neg c] at h
 replace h := Aside0.mk h
 clear c
 obtain ⟨b2, A2, h⟩ := Option.bind_eq_some_iff.mp h.out
 have A2 := Aside0.mk A2
 replace h := Aside0.mk h
 have z3 : w3.cell? ⟨g0, 3, none⟩ = some (.slice A0_3 l0_3.length c0_3) := (blk_cell BK.out 3).trans rfl
 go_wp2_with fail
 refine (laws_szValveS.calls k A0_3 c0_3 l0_3 b1 b2 _ (Kd.C_below HR0_3.out HB.out) HC0_3.out A2.out).mono ?_
 rintro e w4 ⟨rfl, hb⟩
 clear z3 A2
 replace BK := Aside0.mk (blk_below BK.out hb)
 replace HB := Aside0.mk (below_step HB.out hb)
 clear hb
 by_cases c : b2 < 0
 ·obtain rfl : (-1) = r := by have := h.out; rw [if_pos c] at this; exact Option.some.inj this
  have cb : decide (b2 < 0) = true := decide_eq_true c
  clear h c
  go_wp2
  go_ret
  exact ⟨eZ, HB.out⟩
 have cb2 : decide (b2 < 0) = false := decide_eq_false c
 replace h := h.out
 rw [if_neg c] at h
 replace h := Aside0.mk h
 clear c
 obtain ⟨b3, A3, h⟩ := Option.bind_eq_some_iff.mp h.out
 have A3 := Aside0.mk A3
 replace h := Aside0.mk h
 have z4 : w4.cell? ⟨g0, 4, none⟩ = some (.slice A0_4 l0_4.length c0_4) := (blk_cell BK.out 4).trans rfl
 go_wp2_with fail
 refine (laws_szPumpS.calls k A0_4 c0_4 l0_4 b2 b3 _ (Kd.C_below HR0_4.out HB.out) HC0_4.out A3.out).mono ?_
 rintro e w5 ⟨rfl, hb⟩
 clear z4 A3
 replace BK := Aside0.mk (blk_below BK.out hb)
 replace HB := Aside0.mk (below_step HB.out hb)
 clear hb
 by_cases c : b3 < 0
 ·obtain rfl : (-1) = r := by have := h.out; rw [if_pos c] at this; exact Option.some.inj this
  have cb : decide (b3 < 0) = true := decide_eq_true c
  clear h c
  go_wp2
  go_ret
  exact ⟨eZ, HB.out⟩
 have cb3 : decide (b3 < 0) = false := decide_eq_false c
 replace h := h.out
 rw [if_neg c] at h
 replace h := Aside0.mk h
 clear c
 obtain ⟨b4, A4, h⟩ := Option.bind_eq_some_iff.mp h.out
 have A4 := Aside0.mk A4
 replace h := Aside0.mk h
 have z5 : w5.cell? ⟨g0, 5, none⟩ = some (.slice A0_5 l0_5.length c0_5) := (blk_cell BK.out 5).trans rfl
 go_wp2_with fail
 refine (laws_szSubstationS.calls k A0_5 c0_5 l0_5 b3 b4 _ (Kd.C_below HR0_5.out HB.out) HC0_5.out A4.out).mono ?_
 rintro e w6 ⟨rfl, hb⟩
 clear z5 A4
 replace BK := Aside0.mk (blk_below BK.out hb)
 replace HB := Aside0.mk (below_step HB.out hb)
 clear hb
 by_cases c : b4 < 0
 ·obtain rfl : (-1) = r := by have := h.out; rw [if_pos c] at this; exact Option.some.inj this
  have cb : decide (b4 < 0) = true := decide_eq_true c
  clear h c
  go_wp2
  go_ret
  exact ⟨eZ, HB.out⟩
 have cb4 : decide (b4 < 0) = false := decide_eq_false c
 replace h := h.out
 rw [if_neg c] at h
 replace h := Aside0.mk h
 clear c
 obtain ⟨b5, A5, h⟩ := Option.bind_eq_some_iff.mp h.out
 have A5 := Aside0.mk A5
 replace h := Aside0.mk h
 have z9 : w6.cell? ⟨g0, 9, none⟩ = some (.slice A0_9 l0_9.length c0_9) := (blk_cell BK.out 9).trans rfl
 go_wp2_with fail
 refine (laws_szFuelS.calls k A0_9 c0_9 l0_9 b4 b5 _ (Kd.C_below HR0_9.out HB.out) HC0_9.out A5.out).mono ?_
 rintro e w7 ⟨rfl, hb⟩
 clear z9 A5
 replace BK := Aside0.mk (blk_below BK.out hb)
 replace HB := Aside0.mk (below_step HB.out hb)
 clear hb
 by_cases c : b5 < 0
 ·obtain rfl : (-1) = r := by have := h.out; rw [if_pos c] at this; exact Option.some.inj this
  have cb : decide (b5 < 0) = true := decide_eq_true c
  clear h c
  go_wp2
  go_ret
  exact ⟨eZ, HB.out⟩
 have cb5 : decide (b5 < 0) = false := decide_eq_false c
 replace h := h.out
 rw [if_neg c] at h
 replace h := Aside0.mk h
 clear c
 obtain ⟨b6, A6, h⟩ := Option.bind_eq_some_iff.mp h.out
 have A6 := Aside0.mk A6
 replace h := Aside0.mk h
 have z10 : w7.cell? ⟨g0, 10, none⟩ = some (.slice A0_10 l0_10.length c0_10) := (blk_cell BK.out 10).trans rfl
 go_wp2_with fail
 refine (laws_szRepairS.calls k A0_10 c0_10 l0_10 b5 b6 _ (Kd.C_below HR0_10.out HB.out) HC0_10.out A6.out).mono ?_
 rintro e w8 ⟨rfl, hb⟩
 clear z10 A6
 replace BK := Aside0.mk (blk_below BK.out hb)
 replace HB := Aside0.mk (below_step HB.out hb)
 clear hb
 by_cases c : b6 < 0
 ·obtain rfl : (-1) = r := by have := h.out; rw [if_pos c] at this; exact Option.some.inj this
  have cb : decide (b6 < 0) = true := decide_eq_true c
  clear h c
  go_wp2
  go_ret
  exact ⟨eZ, HB.out⟩
 have cb6 : decide (b6 < 0) = false := decide_eq_false c
 replace h := h.out
 rw [if_neg c] at h
 replace h := Aside0.mk h
 clear c
 obtain ⟨b7, A7, h⟩ := Option.bind_eq_some_iff.mp h.out
 have A7 := Aside0.mk A7
 replace h := Aside0.mk h
 have z11 : w8.cell? ⟨g0, 11, none⟩ = some (.slice A0_11 l0_11.length c0_11) := (blk_cell BK.out 11).trans rfl
 go_wp2_with fail
 refine (laws_szTenantS.calls k A0_11 c0_11 l0_11 b6 b7 _ (Kd.C_below HR0_11.out HB.out) HC0_11.out A7.out).mono ?_
 rintro e w9 ⟨rfl, hb⟩
 clear z11 A7
 replace BK := Aside0.mk (blk_below BK.out hb)
 replace HB := Aside0.mk (below_step HB.out hb)
 clear hb
 by_cases c : b7 < 0
 ·obtain rfl : (-1) = r := by have := h.out; rw [if_pos c] at this; exact Option.some.inj this
  have cb : decide (b7 < 0) = true := decide_eq_true c
  clear h c
  go_wp2
  go_ret
  exact ⟨eZ, HB.out⟩
 have cb7 : decide (b7 < 0) = false := decide_eq_false c
 replace h := h.out
 rw [if_neg c] at h
 replace h := Aside0.mk h
 clear c
 obtain ⟨b8, A8, h⟩ := Option.bind_eq_some_iff.mp h.out
 have A8 := Aside0.mk A8
 replace h := Aside0.mk h
 have z12 : w9.cell? ⟨g0, 12, none⟩ = some (.slice A0_12 l0_12.length c0_12) := (blk_cell BK.out 12).trans rfl
 go_wp2_with fail
 refine (laws_szDutyS.calls k A0_12 c0_12 l0_12 b7 b8 _ (Kd.C_below HR0_12.out HB.out) HC0_12.out A8.out).mono ?_
 rintro e w10 ⟨rfl, hb⟩
 clear z12 A8
 replace BK := Aside0.mk (blk_below BK.out hb)
 replace HB := Aside0.mk (below_step HB.out hb)
 clear hb
 by_cases c : b8 < 0
 ·obtain rfl : (-1) = r := by have := h.out; rw [if_pos c] at this; exact Option.some.inj this
  have cb : decide (b8 < 0) = true := decide_eq_true c
  clear h c
  go_wp2
  go_ret
  exact ⟨eZ, HB.out⟩
 have cb8 : decide (b8 < 0) = false := decide_eq_false c
 replace h := h.out
 rw [if_neg c] at h
 replace h := Aside0.mk h
 clear c
 obtain rfl := Option.some.inj h.out
 clear h
 go_wp2
 go_ret
 exact ⟨eZ, HB.out⟩
end Go.Proofs.Ytmfhncjkfhdlcaa.XM
end

section
namespace Go.Proofs.Ytmfhncjkfhdlcaa.XM
open Go.RowKit Go.Proofs.YtmfhncjkfhdlcaaW.PrintWords Go.Proofs.YtmfhncjkfhdlcaaW.PrintLast Go.Proofs.YtmfhncjkfhdlcaaW.PrintMore
attribute [local go_sem] run_eql_slice_nil binOp_string_gtr' binOp_string_leq' binOp_string_geq' max2_int min2_int max_two min_two max_three min_three max_four min_four   -- for this text's walks alone
set_option linter.unusedVariables false
set_option linter.unusedSimpArgs false
theorem eqA66 (d : Nat) (w : World) (x0 y0 : ByteArray) (x1 y1 : ByteArray) (x2 y2 : Bool) :
  (Op.equalIn (d + 2) 66 (.agg #[.string x0, .string x1, .bool x2]) (.agg #[.string y0, .string y1, .bool y2])).run Try.prog w = .ok (x0.toList == y0.toList && (x1.toList == y1.toList && (x2 == y2))) w := by
 refine eqA_of Try.underlying66 (by kernel_rfl) ?_
 refine eqf_cons (by rfl) (by go_simp; rfl) (by go_simp; rfl) (by go_simp) ?_
 refine eqf_cons (by rfl) (by go_simp; rfl) (by go_simp; rfl) (by go_simp) ?_
 exact eqf_last (by rfl) (by go_simp; rfl) (by go_simp; rfl) (by go_simp)
end Go.Proofs.Ytmfhncjkfhdlcaa.XM
end

section
namespace Go.Proofs.Ytmfhncjkfhdlcaa.XM
open Go.RowKit Go.Proofs.YtmfhncjkfhdlcaaW.PrintWords Go.Proofs.YtmfhncjkfhdlcaaW.PrintLast Go.Proofs.YtmfhncjkfhdlcaaW.PrintMore
attribute [local go_sem] run_eql_slice_nil binOp_string_gtr' binOp_string_leq' binOp_string_geq' max2_int min2_int max_two min_two max_three min_three max_four min_four   -- for this text's walks alone
set_option linter.unusedVariables false
set_option linter.unusedSimpArgs false
theorem eqA73 (d : Nat) (w : World) (x0 y0 : ByteArray) (x1 y1 : Int) (x2 y2 : Int) (x3 y3 : Int) (x4 y4 : Int) :
  (Op.equalIn (d + 2) 73 (.agg #[.string x0, .int .i64 x1, .int .i64 x2, .int .i64 x3, .int .i64 x4]) (.agg #[.string y0, .int .i64 y1, .int .i64 y2, .int .i64 y3, .int .i64 y4])).run Try.prog w = .ok (x0.toList == y0.toList && (x1 == y1 && (x2 == y2 && (x3 == y3 && (x4 == y4))))) w := by
 refine eqA_of Try.underlying73 (by kernel_rfl) ?_
 refine eqf_cons (by rfl) (by go_simp; rfl) (by go_simp; rfl) (by go_simp) ?_
 refine eqf_cons (by rfl) (by go_simp; rfl) (by go_simp; rfl) (by go_simp) ?_
 refine eqf_cons (by rfl) (by go_simp; rfl) (by go_simp; rfl) (by go_simp) ?_
 refine eqf_cons (by rfl) (by go_simp; rfl) (by go_simp; rfl) (by go_simp) ?_
 exact eqf_last (by rfl) (by go_simp; rfl) (by go_simp; rfl) (by go_simp)
end Go.Proofs.Ytmfhncjkfhdlcaa.XM
end

section
namespace Go.Proofs.Ytmfhncjkfhdlcaa.XM
open Go.RowKit Go.Proofs.YtmfhncjkfhdlcaaW.PrintWords Go.Proofs.YtmfhncjkfhdlcaaW.PrintLast Go.Proofs.YtmfhncjkfhdlcaaW.PrintMore
attribute [local go_sem] run_eql_slice_nil binOp_string_gtr' binOp_string_leq' binOp_string_geq' max2_int min2_int max_two min_two max_three min_three max_four min_four   -- for this text's walks alone
set_option linter.unusedVariables false
set_option linter.unusedSimpArgs false
theorem eqA75 (d : Nat) (w : World) (x0 y0 : ByteArray) (x1 y1 : Int) (x2 y2 : Int) (x3 y3 : Int) :
  (Op.equalIn (d + 2) 75 (.agg #[.string x0, .int .i64 x1, .int .i64 x2, .int .i64 x3]) (.agg #[.string y0, .int .i64 y1, .int .i64 y2, .int .i64 y3])).run Try.prog w = .ok (x0.toList == y0.toList && (x1 == y1 && (x2 == y2 && (x3 == y3)))) w := by
 refine eqA_of Try.underlying75 (by kernel_rfl) ?_
 refine eqf_cons (by rfl) (by go_simp; rfl) (by go_simp; rfl) (by go_simp) ?_
 refine eqf_cons (by rfl) (by go_simp; rfl) (by go_simp; rfl) (by go_simp) ?_
 refine eqf_cons (by rfl) (by go_simp; rfl) (by go_simp; rfl) (by go_simp) ?_
 exact eqf_last (by rfl) (by go_simp; rfl) (by go_simp; rfl) (by go_simp)
end Go.Proofs.Ytmfhncjkfhdlcaa.XM
end

section
namespace Go.Proofs.Ytmfhncjkfhdlcaa.XM
open Go.RowKit Go.Proofs.YtmfhncjkfhdlcaaW.PrintWords Go.Proofs.YtmfhncjkfhdlcaaW.PrintLast Go.Proofs.YtmfhncjkfhdlcaaW.PrintMore
attribute [local go_sem] run_eql_slice_nil binOp_string_gtr' binOp_string_leq' binOp_string_geq' max2_int min2_int max_two min_two max_three min_three max_four min_four   -- for this text's walks alone
set_option linter.unusedVariables false
set_option linter.unusedSimpArgs false
theorem eqA77 (d : Nat) (w : World) (x0 y0 : ByteArray) (x1 y1 : Int) (x2 y2 : Int) (x3 y3 : Int) :
  (Op.equalIn (d + 2) 77 (.agg #[.string x0, .int .i64 x1, .int .i64 x2, .int .i64 x3]) (.agg #[.string y0, .int .i64 y1, .int .i64 y2, .int .i64 y3])).run Try.prog w = .ok (x0.toList == y0.toList && (x1 == y1 && (x2 == y2 && (x3 == y3)))) w := by
 refine eqA_of Try.underlying77 (by kernel_rfl) ?_
 refine eqf_cons (by rfl) (by go_simp; rfl) (by go_simp; rfl) (by go_simp) ?_
 refine eqf_cons (by rfl) (by go_simp; rfl) (by go_simp; rfl) (by go_simp) ?_
 refine eqf_cons (by rfl) (by go_simp; rfl) (by go_simp; rfl) (by go_simp) ?_
 exact eqf_last (by rfl) (by go_simp; rfl) (by go_simp; rfl) (by go_simp)
end Go.Proofs.Ytmfhncjkfhdlcaa.XM
end

section
namespace Go.Proofs.Ytmfhncjkfhdlcaa.XM
open Go.RowKit Go.Proofs.YtmfhncjkfhdlcaaW.PrintWords Go.Proofs.YtmfhncjkfhdlcaaW.PrintLast Go.Proofs.YtmfhncjkfhdlcaaW.PrintMore
attribute [local go_sem] run_eql_slice_nil binOp_string_gtr' binOp_string_leq' binOp_string_geq' max2_int min2_int max_two min_two max_three min_three max_four min_four   -- for this text's walks alone
set_option linter.unusedVariables false
set_option linter.unusedSimpArgs false
theorem eqA79 (d : Nat) (w : World) (x0 y0 : ByteArray) (x1 y1 : Int) (x2 y2 : Int) :
  (Op.equalIn (d + 2) 79 (.agg #[.string x0, .int .i64 x1, .int .i64 x2]) (.agg #[.string y0, .int .i64 y1, .int .i64 y2])).run Try.prog w = .ok (x0.toList == y0.toList && (x1 == y1 && (x2 == y2))) w := by
 refine eqA_of Try.underlying79 (by kernel_rfl) ?_
 refine eqf_cons (by rfl) (by go_simp; rfl) (by go_simp; rfl) (by go_simp) ?_
 refine eqf_cons (by rfl) (by go_simp; rfl) (by go_simp; rfl) (by go_simp) ?_
 exact eqf_last (by rfl) (by go_simp; rfl) (by go_simp; rfl) (by go_simp)
end Go.Proofs.Ytmfhncjkfhdlcaa.XM
end

section
namespace Go.Proofs.Ytmfhncjkfhdlcaa.XM
open Go.RowKit Go.Proofs.YtmfhncjkfhdlcaaW.PrintWords Go.Proofs.YtmfhncjkfhdlcaaW.PrintLast Go.Proofs.YtmfhncjkfhdlcaaW.PrintMore
attribute [local go_sem] run_eql_slice_nil binOp_string_gtr' binOp_string_leq' binOp_string_geq' max2_int min2_int max_two min_two max_three min_three max_four min_four   -- for this text's walks alone
set_option linter.unusedVariables false
set_option linter.unusedSimpArgs false
theorem eqA81 (d : Nat) (w : World) (x0 y0 : ByteArray) (x1 y1 : Int) (x2 y2 : Int) (x3 y3 : Bool) :
  (Op.equalIn (d + 2) 81 (.agg #[.string x0, .int .i64 x1, .int .i64 x2, .bool x3]) (.agg #[.string y0, .int .i64 y1, .int .i64 y2, .bool y3])).run Try.prog w = .ok (x0.toList == y0.toList && (x1 == y1 && (x2 == y2 && (x3 == y3)))) w := by
 refine eqA_of Try.underlying81 (by kernel_rfl) ?_
 refine eqf_cons (by rfl) (by go_simp; rfl) (by go_simp; rfl) (by go_simp) ?_
 refine eqf_cons (by rfl) (by go_simp; rfl) (by go_simp; rfl) (by go_simp) ?_
 refine eqf_cons (by rfl) (by go_simp; rfl) (by go_simp; rfl) (by go_simp) ?_
 exact eqf_last (by rfl) (by go_simp; rfl) (by go_simp; rfl) (by go_simp)
end Go.Proofs.Ytmfhncjkfhdlcaa.XM
end

section
namespace Go.Proofs.Ytmfhncjkfhdlcaa.XM
open Go.RowKit Go.Proofs.YtmfhncjkfhdlcaaW.PrintWords Go.Proofs.YtmfhncjkfhdlcaaW.PrintLast Go.Proofs.YtmfhncjkfhdlcaaW.PrintMore
attribute [local go_sem] run_eql_slice_nil binOp_string_gtr' binOp_string_leq' binOp_string_geq' max2_int min2_int max_two min_two max_three min_three max_four min_four   -- for this text's walks alone
set_option linter.unusedVariables false
set_option linter.unusedSimpArgs false
def spec_l00Same.l0 : Nat → List Int → List Int → Int → Option (Bool)
 | 0, _, _, _ => none
 | k + 1, x0, x1, x5 => if x5 < (x0.length : Int) then (if 0 ≤ x5 then (if x5 < (x1.length : Int) then (if (rd x0 x5) = (rd x1 x5) then (spec_l00Same.l0 k x0 x1 (wrap64 (x5 + 1))) else (some false)) else (none)) else (none)) else (some true)
def spec_l00Same.f (k : Nat) (l0 : List Int) (l1 : List Int) : Option (Bool) := if (l0.length : Int) = (l1.length : Int) then (spec_l00Same.l0 k l0 l1 0) else (some false)
set_option maxHeartbeats 8000000 in
set_option maxRecDepth 100000 in
theorem spec_l00Same.calls (k : Nat) (A0 : Option Addr) (c0 : Nat) (l0 : List Int) (A1 : Option Addr) (c1 : Nat) (l1 : List Int) (r : Bool) (w : World) (hr0 : Kd.C (Kd.int .i64) w A0 l0.length l0) (hc0 : l0.length ≤ c0) (hr1 : Kd.C (Kd.int .i64) w A1 l1.length l1) (hc1 : l1.length ≤ c1) (h : spec_l00Same.f k l0 l1 = some r) :
  Calls Try.prog 19 #[.slice A0 l0.length c0, .slice A1 l1.length c1] w fun e w' => e = .returned (.bool r) ∧ Drawn0 w w' := by
 have HR0 := Aside0.mk hr0
 have HC0 := Aside0.mk hc0
 clear hr0 hc0
 have HR1 := Aside0.mk hr1
 have HC1 := Aside0.mk hc1
 clear hr1 hc1
 have H : (if (l0.length : Int) = (l1.length : Int) then (spec_l00Same.l0 k l0 l1 0) else (some false)) = some r := h
 clear h
 by_cases c3 : (l0.length : Int) = (l1.length : Int)
 ·rw [if_pos c3] at H
  have c3b0 : ((l0.length : Int) == (l1.length : Int)) = true := beq_iff_eq.mpr c3
  have c3b1 : ((l0.length : Int) != (l1.length : Int)) = false := bne_eq_false_iff_eq.mpr c3
  have c3b2 : (l0.length == l1.length) = true := by first | simpa using c3 | (simp at c3 ⊢; omega)
  clear c3
  have H' := Aside0.mk H
  clear H
  go_enter Try.func19, Try.ntmps19
  go_wp2
  repeat (go_quiet (fail); try go_wp2)
  go_loopg [5] k (fun kq v5 w' => ∃ (x5_1 : Int), v5 = .int .i64 x5_1 ∧ Aside0 (spec_l00Same.l0 kq l0 l1 x5_1 = some r) ∧ Aside0 (kq ≤ k) ∧ Drawn0 w w')
  case atStart => exact ⟨(0), sZ, H', ⟨Nat.le_refl _⟩, dZ⟩
  case round =>
   clear H'; (try clear c1); (try clear p2); (try clear c3); (try clear c3b0); (try clear c3b1); (try clear c3b2)
   obtain ⟨x5_1, rfl, HA, HK1, ⟨m1, rfl⟩⟩ := hrel
   cases gk with
   | zero => exact absurd HA.out (by simp [spec_l00Same.l0])
   | succ k1 =>
    have H := HA.out
    clear HA
    simp only [spec_l00Same.l0] at H
    by_cases c4 : x5_1 < (l0.length : Int)
    ·rw [if_pos c4] at H
     have c4b0 : decide (x5_1 < (l0.length : Int)) = true := decide_eq_true c4
     clear c4
     by_cases c5 : 0 ≤ x5_1
     ·rw [if_pos c5] at H
      have c5b0 : decide (0 ≤ x5_1) = true := decide_eq_true c5
      clear c5
      by_cases c6 : x5_1 < (l1.length : Int)
      ·rw [if_pos c6] at H
       have c6b0 : decide (x5_1 < (l1.length : Int)) = true := decide_eq_true c6
       clear c6
       by_cases c7 : (rd l0 x5_1) = (rd l1 x5_1)
       ·rw [if_pos c7] at H
        have c7b0 : ((rd l0 x5_1) == (rd l1 x5_1)) = true := beq_iff_eq.mpr c7
        have c7b1 : ((rd l0 x5_1) != (rd l1 x5_1)) = false := bne_eq_false_iff_eq.mpr c7
        clear c7
        have H' := Aside0.mk H
        clear H
        have p131 : 0 ≤ (x5_1 : Int) := oZ
        have q131 : x5_1 < (l0.length : Int) := oZ
        obtain ⟨ad131, e131, hx131_0⟩ := Kd.at_int HR0.out x5_1 p131 q131
        cases e131
        replace p131 := eq_true p131
        replace q131 := eq_true q131
        have p132 : 0 ≤ (x5_1 : Int) := oZ
        have q132 : x5_1 < (l1.length : Int) := oZ
        obtain ⟨ad132, e132, hx132_0⟩ := Kd.at_int HR1.out x5_1 p132 q132
        cases e132
        replace p132 := eq_true p132
        replace q132 := eq_true q132
        go_wp2
        repeat (go_quiet (fail); try go_wp2)
        go_roundg k1
        case measure => have := HK1.out; omega
        case rel => exact ⟨(wrap64 (x5_1 + 1)), sZ, H', ⟨by have := HK1.out; omega⟩, dZ⟩
       ·rw [if_neg c7] at H
        have c7b0 : ((rd l0 x5_1) == (rd l1 x5_1)) = false := beq_eq_false_iff_ne.mpr c7
        have c7b1 : ((rd l0 x5_1) != (rd l1 x5_1)) = true := bne_iff_ne.mpr c7
        obtain rfl := Option.some.inj H
        have p131 : 0 ≤ (x5_1 : Int) := oZ
        have q131 : x5_1 < (l0.length : Int) := oZ
        obtain ⟨ad131, e131, hx131_0⟩ := Kd.at_int HR0.out x5_1 p131 q131
        cases e131
        replace p131 := eq_true p131
        replace q131 := eq_true q131
        have p132 : 0 ≤ (x5_1 : Int) := oZ
        have q132 : x5_1 < (l1.length : Int) := oZ
        obtain ⟨ad132, e132, hx132_0⟩ := Kd.at_int HR1.out x5_1 p132 q132
        cases e132
        replace p132 := eq_true p132
        replace q132 := eq_true q132
        go_wp2
        repeat (go_quiet (fail); try go_wp2)
        go_ret
        exact ⟨sZ, dZ⟩
      ·rw [if_neg c6] at H
       exact absurd H (by simp)
     ·rw [if_neg c5] at H
      exact absurd H (by simp)
    ·rw [if_neg c4] at H
     have c4b0 : decide (x5_1 < (l0.length : Int)) = false := decide_eq_false c4
     clear c4
     obtain rfl := Option.some.inj H
     go_wp2
     repeat (go_quiet (fail); try go_wp2)
     go_ret
     exact ⟨sZ, dZ⟩
 ·rw [if_neg c3] at H
  have c3b0 : ((l0.length : Int) == (l1.length : Int)) = false := beq_eq_false_iff_ne.mpr c3
  have c3b1 : ((l0.length : Int) != (l1.length : Int)) = true := bne_iff_ne.mpr c3
  have c3b2 : (l0.length == l1.length) = false := by first | simpa using c3 | (simp at c3 ⊢; omega)
  obtain rfl := Option.some.inj H
  go_enter Try.func19, Try.ntmps19
  go_wp2
  repeat (go_quiet (fail); try go_wp2)
  go_ret
  exact ⟨sZ, dZ⟩
end Go.Proofs.Ytmfhncjkfhdlcaa.XM
end

section
namespace Go.Proofs.Ytmfhncjkfhdlcaa.XM
open Go.RowKit Go.Proofs.YtmfhncjkfhdlcaaW.PrintWords Go.Proofs.YtmfhncjkfhdlcaaW.PrintLast Go.Proofs.YtmfhncjkfhdlcaaW.PrintMore
attribute [local go_sem] run_eql_slice_nil binOp_string_gtr' binOp_string_leq' binOp_string_geq' max2_int min2_int max_two min_two max_three min_three max_four min_four   -- for this text's walks alone
set_option linter.unusedVariables false
set_option linter.unusedSimpArgs false
theorem eqA118 (d : Nat) (w : World) (x0 y0 : ByteArray) (x1 y1 : Int) (x2 y2 : Int) (x3 y3 : Int) (x4 y4 : Int) (x5 y5 : Int) :
  (Op.equalIn (d + 2) 118 (.agg #[.string x0, .int .i64 x1, .int .i64 x2, .int .i64 x3, .int .i64 x4, .int .i64 x5]) (.agg #[.string y0, .int .i64 y1, .int .i64 y2, .int .i64 y3, .int .i64 y4, .int .i64 y5])).run Try.prog w = .ok (x0.toList == y0.toList && (x1 == y1 && (x2 == y2 && (x3 == y3 && (x4 == y4 && (x5 == y5)))))) w := by
 refine eqA_of Try.underlying118 (by kernel_rfl) ?_
 refine eqf_cons (by rfl) (by go_simp; rfl) (by go_simp; rfl) (by go_simp) ?_
 refine eqf_cons (by rfl) (by go_simp; rfl) (by go_simp; rfl) (by go_simp) ?_
 refine eqf_cons (by rfl) (by go_simp; rfl) (by go_simp; rfl) (by go_simp) ?_
 refine eqf_cons (by rfl) (by go_simp; rfl) (by go_simp; rfl) (by go_simp) ?_
 refine eqf_cons (by rfl) (by go_simp; rfl) (by go_simp; rfl) (by go_simp) ?_
 exact eqf_last (by rfl) (by go_simp; rfl) (by go_simp; rfl) (by go_simp)
end Go.Proofs.Ytmfhncjkfhdlcaa.XM
end

section
namespace Go.Proofs.Ytmfhncjkfhdlcaa.XM
open Go.RowKit Go.Proofs.YtmfhncjkfhdlcaaW.PrintWords Go.Proofs.YtmfhncjkfhdlcaaW.PrintLast Go.Proofs.YtmfhncjkfhdlcaaW.PrintMore
attribute [local go_sem] run_eql_slice_nil binOp_string_gtr' binOp_string_leq' binOp_string_geq' max2_int min2_int max_two min_two max_three min_three max_four min_four   -- for this text's walks alone
set_option linter.unusedVariables false
set_option linter.unusedSimpArgs false
attribute [local go_sem high] eqA118
mutual
def spec_SameNetwork.j0 : Nat → Bool → List Int → List (S118) → List Int → List (S118) → Option (Bool)
 | 0, _, _, _, _, _ => none
 | k + 1, x20, x134000, x134001, x135000, x135001 => if x20 = true then (some false) else (spec_SameNetwork.l0 k 0 x134000 x134001 x135000 x135001)
def spec_SameNetwork.l0 : Nat → Int → List Int → List (S118) → List Int → List (S118) → Option (Bool)
 | 0, _, _, _, _, _ => none
 | k + 1, x5, x134000, x134001, x135000, x135001 => if x5 < (x134001.length : Int) then (if 0 ≤ x5 then (if x5 < (x135001.length : Int) then (if (!((((rd_T118 x134001 x5).f0).toList) == (((rd_T118 x135001 x5).f0).toList)) || (!(((rd_T118 x134001 x5).f1) == ((rd_T118 x135001 x5).f1)) || (!(((rd_T118 x134001 x5).f2) == ((rd_T118 x135001 x5).f2)) || (!(((rd_T118 x134001 x5).f3) == ((rd_T118 x135001 x5).f3)) || (!(((rd_T118 x134001 x5).f4) == ((rd_T118 x135001 x5).f4)) || (!(((rd_T118 x134001 x5).f5) == ((rd_T118 x135001 x5).f5)))))))) = true then (some false) else (spec_SameNetwork.l0 k (wrap64 (x5 + 1)) x134000 x134001 x135000 x135001)) else (none)) else (none)) else (some true)
end
def spec_SameNetwork.f (k : Nat) (l0_0 : List Int) (l0_1 : List (S118)) (l1_0 : List Int) (l1_1 : List (S118)) : Option (Bool) := (spec_l00Same.f k l0_0 l1_0).bind fun t135 => (if t135 = true then (spec_SameNetwork.j0 k ((l0_1.length : Int) != (l1_1.length : Int)) l0_0 l0_1 l1_0 l1_1) else (spec_SameNetwork.j0 k true l0_0 l0_1 l1_0 l1_1))
set_option maxHeartbeats 8000000 in
set_option maxRecDepth 100000 in
theorem spec_SameNetwork.calls (k : Nat) (A0_0 : Option Addr) (c0_0 : Nat) (l0_0 : List Int) (A0_1 : Option Addr) (c0_1 : Nat) (l0_1 : List (S118)) (A1_0 : Option Addr) (c1_0 : Nat) (l1_0 : List Int) (A1_1 : Option Addr) (c1_1 : Nat) (l1_1 : List (S118)) (r : Bool) (w : World) (hr0_0 : Kd.C (Kd.int .i64) w A0_0 l0_0.length l0_0) (hc0_0 : l0_0.length ≤ c0_0) (hr0_1 : Kd.C k118 w A0_1 l0_1.length l0_1) (hc0_1 : l0_1.length ≤ c0_1) (hr1_0 : Kd.C (Kd.int .i64) w A1_0 l1_0.length l1_0) (hc1_0 : l1_0.length ≤ c1_0) (hr1_1 : Kd.C k118 w A1_1 l1_1.length l1_1) (hc1_1 : l1_1.length ≤ c1_1) (h : spec_SameNetwork.f k l0_0 l0_1 l1_0 l1_1 = some r) :
  Calls Try.prog 18 #[.agg #[.slice A0_0 l0_0.length c0_0, .slice A0_1 l0_1.length c0_1], .agg #[.slice A1_0 l1_0.length c1_0, .slice A1_1 l1_1.length c1_1]] w fun e w' => e = .returned (.bool r) ∧ Below w.heap.size w w' := by
 have hu41 := Try.underlying41
 have hu118 := Try.underlying118
 have HR0_0 := Aside0.mk hr0_0
 have HC0_0 := Aside0.mk hc0_0
 clear hr0_0 hc0_0
 have HR0_1 := Aside0.mk hr0_1
 have HC0_1 := Aside0.mk hc0_1
 clear hr0_1 hc0_1
 have HR1_0 := Aside0.mk hr1_0
 have HC1_0 := Aside0.mk hc1_0
 clear hr1_0 hc1_0
 have HR1_1 := Aside0.mk hr1_1
 have HC1_1 := Aside0.mk hc1_1
 clear hr1_1 hc1_1
 have HB := Aside0.mk (Below.refl w.heap.size w)
 have H : ((spec_l00Same.f k l0_0 l1_0).bind fun t135 => (if t135 = true then (spec_SameNetwork.j0 k ((l0_1.length : Int) != (l1_1.length : Int)) l0_0 l0_1 l1_0 l1_1) else (spec_SameNetwork.j0 k true l0_0 l0_1 l1_0 l1_1))) = some r := h
 clear h
 have HC3 := Aside0.mk H
 clear H
 go_enter Try.func18, Try.ntmps18
 go_upto_region 1 with (first | ((with_reducible refine gate_dst (N := 2) rfl ?_); (try (refine gate_guard (by rfl) ?_; dsimp only)); refine boxZ 2 #[.slice A0_0 l0_0.length c0_0, .slice A0_1 l0_1.length c0_1] 41 rfl rfl ?_; intro gb133 hg w4 hbox hb; have n0_ := Aside0.mk (below_step bZ hb); have n1_ := Aside0.mk (hbox); have n2_ := Aside0.mk ((by rw [hg]; exact bsZ : w.heap.size ≤ gb133)); have n3_ := Aside0.mk ((by rw [hg]; exact bsZ : w.heap.size ≤ gb133)); clear HB; have HB := n0_; have BK133 := n1_; have GW133 := n2_; have GE133 := n3_; clear n0_ n1_ n2_ n3_; clear hb hbox hg) | ((with_reducible refine gate_dst (N := 3) rfl ?_); (try (refine gate_guard (by rfl) ?_; dsimp only)); refine boxZ 3 #[.slice A1_0 l1_0.length c1_0, .slice A1_1 l1_1.length c1_1] 41 rfl rfl ?_; intro gb134 hg w5 hbox hb; have n0_ := Aside0.mk (blk_below (g := gb133) (o := .cells #[.slice A0_0 l0_0.length c0_0, .slice A0_1 l0_1.length c0_1] 41 (0, 0)) (kZ BK133.out) hb); have n1_ := Aside0.mk (below_step bZ hb); have n2_ := Aside0.mk (hbox); have n3_ := Aside0.mk ((by rw [hg]; exact bsZ : w.heap.size ≤ gb134)); have n4_ := Aside0.mk ((by rw [hg]; exact bsZ : w.heap.size ≤ gb134)); have n5_ := Aside0.mk ((by rw [hg]; exact Nat.ne_of_lt (blk_lt (g := gb133) (o := .cells #[.slice A0_0 l0_0.length c0_0, .slice A0_1 l0_1.length c0_1] 41 (0, 0)) (kZ BK133.out)) : gb133 ≠ gb134)); have n6_ := Aside0.mk ((by rw [hg]; exact Nat.ne_of_gt (blk_lt (g := gb133) (o := .cells #[.slice A0_0 l0_0.length c0_0, .slice A0_1 l0_1.length c0_1] 41 (0, 0)) (kZ BK133.out)) : gb134 ≠ gb133)); clear BK133; clear HB; have BK133 := n0_; have HB := n1_; have BK134 := n2_; have GW134 := n3_; have GE134 := n4_; have NB133_134 := n5_; have NB134_133 := n6_; clear n0_ n1_ n2_ n3_ n4_ n5_ n6_; clear hb hbox hg))
 repeat (go_quiet (first | ((with_reducible refine gate_dst (N := 2) rfl ?_); (try (refine gate_guard (by rfl) ?_; dsimp only)); refine boxZ 2 #[.slice A0_0 l0_0.length c0_0, .slice A0_1 l0_1.length c0_1] 41 rfl rfl ?_; intro gb133 hg w4 hbox hb; have n0_ := Aside0.mk (below_step bZ hb); have n1_ := Aside0.mk (hbox); have n2_ := Aside0.mk ((by rw [hg]; exact bsZ : w.heap.size ≤ gb133)); have n3_ := Aside0.mk ((by rw [hg]; exact bsZ : w.heap.size ≤ gb133)); clear HB; have HB := n0_; have BK133 := n1_; have GW133 := n2_; have GE133 := n3_; clear n0_ n1_ n2_ n3_; clear hb hbox hg) | ((with_reducible refine gate_dst (N := 3) rfl ?_); (try (refine gate_guard (by rfl) ?_; dsimp only)); refine boxZ 3 #[.slice A1_0 l1_0.length c1_0, .slice A1_1 l1_1.length c1_1] 41 rfl rfl ?_; intro gb134 hg w5 hbox hb; have n0_ := Aside0.mk (blk_below (g := gb133) (o := .cells #[.slice A0_0 l0_0.length c0_0, .slice A0_1 l0_1.length c0_1] 41 (0, 0)) (kZ BK133.out) hb); have n1_ := Aside0.mk (below_step bZ hb); have n2_ := Aside0.mk (hbox); have n3_ := Aside0.mk ((by rw [hg]; exact bsZ : w.heap.size ≤ gb134)); have n4_ := Aside0.mk ((by rw [hg]; exact bsZ : w.heap.size ≤ gb134)); have n5_ := Aside0.mk ((by rw [hg]; exact Nat.ne_of_lt (blk_lt (g := gb133) (o := .cells #[.slice A0_0 l0_0.length c0_0, .slice A0_1 l0_1.length c0_1] 41 (0, 0)) (kZ BK133.out)) : gb133 ≠ gb134)); have n6_ := Aside0.mk ((by rw [hg]; exact Nat.ne_of_gt (blk_lt (g := gb133) (o := .cells #[.slice A0_0 l0_0.length c0_0, .slice A0_1 l0_1.length c0_1] 41 (0, 0)) (kZ BK133.out)) : gb134 ≠ gb133)); clear BK133; clear HB; have BK133 := n0_; have HB := n1_; have BK134 := n2_; have GW134 := n3_; have GE134 := n4_; have NB133_134 := n5_; have NB134_133 := n6_; clear n0_ n1_ n2_ n3_ n4_ n5_ n6_; clear hb hbox hg)); go_upto_region 1 with (first | ((with_reducible refine gate_dst (N := 2) rfl ?_); (try (refine gate_guard (by rfl) ?_; dsimp only)); refine boxZ 2 #[.slice A0_0 l0_0.length c0_0, .slice A0_1 l0_1.length c0_1] 41 rfl rfl ?_; intro gb133 hg w4 hbox hb; have n0_ := Aside0.mk (below_step bZ hb); have n1_ := Aside0.mk (hbox); have n2_ := Aside0.mk ((by rw [hg]; exact bsZ : w.heap.size ≤ gb133)); have n3_ := Aside0.mk ((by rw [hg]; exact bsZ : w.heap.size ≤ gb133)); clear HB; have HB := n0_; have BK133 := n1_; have GW133 := n2_; have GE133 := n3_; clear n0_ n1_ n2_ n3_; clear hb hbox hg) | ((with_reducible refine gate_dst (N := 3) rfl ?_); (try (refine gate_guard (by rfl) ?_; dsimp only)); refine boxZ 3 #[.slice A1_0 l1_0.length c1_0, .slice A1_1 l1_1.length c1_1] 41 rfl rfl ?_; intro gb134 hg w5 hbox hb; have n0_ := Aside0.mk (blk_below (g := gb133) (o := .cells #[.slice A0_0 l0_0.length c0_0, .slice A0_1 l0_1.length c0_1] 41 (0, 0)) (kZ BK133.out) hb); have n1_ := Aside0.mk (below_step bZ hb); have n2_ := Aside0.mk (hbox); have n3_ := Aside0.mk ((by rw [hg]; exact bsZ : w.heap.size ≤ gb134)); have n4_ := Aside0.mk ((by rw [hg]; exact bsZ : w.heap.size ≤ gb134)); have n5_ := Aside0.mk ((by rw [hg]; exact Nat.ne_of_lt (blk_lt (g := gb133) (o := .cells #[.slice A0_0 l0_0.length c0_0, .slice A0_1 l0_1.length c0_1] 41 (0, 0)) (kZ BK133.out)) : gb133 ≠ gb134)); have n6_ := Aside0.mk ((by rw [hg]; exact Nat.ne_of_gt (blk_lt (g := gb133) (o := .cells #[.slice A0_0 l0_0.length c0_0, .slice A0_1 l0_1.length c0_1] 41 (0, 0)) (kZ BK133.out)) : gb134 ≠ gb133)); clear BK133; clear HB; have BK133 := n0_; have HB := n1_; have BK134 := n2_; have GW134 := n3_; have GE134 := n4_; have NB133_134 := n5_; have NB134_133 := n6_; clear n0_ n1_ n2_ n3_ n4_ n5_ n6_; clear hb hbox hg)))
 (try simp only [Act.put, List.setIfInBounds_toArray, List.set_cons_zero, List.set_cons_succ])
 go_cut [20] (fun v20 wc => ∃ (kq : Nat) (x20_2 : Bool), v20 = .bool x20_2 ∧ Aside0 (spec_SameNetwork.j0 kq x20_2 l0_0 l0_1 l1_0 l1_1 = some r) ∧ Aside0 (kq ≤ k) ∧ Aside0 (wc.heap[gb133]? = some (.cells #[(.slice A0_0 l0_0.length c0_0), (.slice A0_1 l0_1.length c0_1)] 41 (0, 0))) ∧ Aside0 (wc.heap[gb134]? = some (.cells #[(.slice A1_0 l1_0.length c1_0), (.slice A1_1 l1_1.length c1_1)] 41 (0, 0))) ∧ Aside0 (Below w.heap.size w wc))
 case first =>
  have H := HC3.out
  clear HC3
  replace H := Option.bind_eq_some_iff.mp H
  obtain ⟨t135, A60, H⟩ := H
  replace H : (if t135 = true then (spec_SameNetwork.j0 k ((l0_1.length : Int) != (l1_1.length : Int)) l0_0 l0_1 l1_0 l1_1) else (spec_SameNetwork.j0 k true l0_0 l0_1 l1_0 l1_1)) = some r := H
  have A6 := Aside0.mk A60
  clear A60
  by_cases c7 : t135 = true
  ·subst c7
   have H1 : (spec_SameNetwork.j0 k ((l0_1.length : Int) != (l1_1.length : Int)) l0_0 l0_1 l1_0 l1_1) = some r := by rw [if_pos rfl] at H; exact H
   clear H
   have H := H1
   clear H1
   have H' := Aside0.mk H
   clear H
   have hnb8 := NB133_134.out
   have hnc8 := NB134_133.out
   have hcz9_0 := bc0 BK133.out
   have hcz9_1 := bc1 BK133.out
   have hfz9_0 := blk_frozen BK133.out 0
   have hfz9_1 := blk_frozen BK133.out 1
   have hcz10_0 := bc0 BK134.out
   have hcz10_1 := bc1 BK134.out
   have hfz10_0 := blk_frozen BK134.out 0
   have hfz10_1 := blk_frozen BK134.out 1
   go_wp2_with (first | (go_at_call 19; (with_reducible refine (spec_l00Same.calls k _ _ l0_0 _ _ l1_0 true _ ?side1 ?side2 ?side3 ?side4 A6.out).mono ?_); (case side1 => repeat (first | exact (Kd.C_below HR0_0.out HB.out) | (with_reducible refine Kd.C_alloc ?_ _) | (with_reducible refine Kd.C_drewN ?_ _) | (with_reducible refine Kd.C_drew ?_))); (case side2 => exact HC0_0.out); (case side3 => repeat (first | exact (Kd.C_below HR1_0.out HB.out) | (with_reducible refine Kd.C_alloc ?_ _) | (with_reducible refine Kd.C_drewN ?_ _) | (with_reducible refine Kd.C_drew ?_))); (case side4 => exact HC1_0.out); rintro e w' ⟨rfl, ⟨nd, rfl⟩⟩; (try first | exact ⟨rfl, _, World.drewN_drewN _ _ _⟩ | exact ⟨rfl, _, Eq.trans (World.drewN_drewN _ _ _) (congrArg (World.drewN _) (Nat.add_assoc _ _ _))⟩)))
   repeat (go_quiet (first | (go_at_call 19; (with_reducible refine (spec_l00Same.calls k _ _ l0_0 _ _ l1_0 true _ ?side1 ?side2 ?side3 ?side4 A6.out).mono ?_); (case side1 => repeat (first | exact (Kd.C_below HR0_0.out HB.out) | (with_reducible refine Kd.C_alloc ?_ _) | (with_reducible refine Kd.C_drewN ?_ _) | (with_reducible refine Kd.C_drew ?_))); (case side2 => exact HC0_0.out); (case side3 => repeat (first | exact (Kd.C_below HR1_0.out HB.out) | (with_reducible refine Kd.C_alloc ?_ _) | (with_reducible refine Kd.C_drewN ?_ _) | (with_reducible refine Kd.C_drew ?_))); (case side4 => exact HC1_0.out); rintro e w' ⟨rfl, ⟨nd, rfl⟩⟩; (try first | exact ⟨rfl, _, World.drewN_drewN _ _ _⟩ | exact ⟨rfl, _, Eq.trans (World.drewN_drewN _ _ _) (congrArg (World.drewN _) (Nat.add_assoc _ _ _))⟩))); try go_wp2_with (first | (go_at_call 19; (with_reducible refine (spec_l00Same.calls k _ _ l0_0 _ _ l1_0 true _ ?side1 ?side2 ?side3 ?side4 A6.out).mono ?_); (case side1 => repeat (first | exact (Kd.C_below HR0_0.out HB.out) | (with_reducible refine Kd.C_alloc ?_ _) | (with_reducible refine Kd.C_drewN ?_ _) | (with_reducible refine Kd.C_drew ?_))); (case side2 => exact HC0_0.out); (case side3 => repeat (first | exact (Kd.C_below HR1_0.out HB.out) | (with_reducible refine Kd.C_alloc ?_ _) | (with_reducible refine Kd.C_drewN ?_ _) | (with_reducible refine Kd.C_drew ?_))); (case side4 => exact HC1_0.out); rintro e w' ⟨rfl, ⟨nd, rfl⟩⟩; (try first | exact ⟨rfl, _, World.drewN_drewN _ _ _⟩ | exact ⟨rfl, _, Eq.trans (World.drewN_drewN _ _ _) (congrArg (World.drewN _) (Nat.add_assoc _ _ _))⟩))))
   go_meet
   case rel => exact ⟨_, (((l0_1.length : Int) != (l1_1.length : Int))), sZ, H', ⟨by first | omega | exact Nat.le_refl _⟩, ⟨kZ BK133.out⟩, ⟨kZ BK134.out⟩, ⟨bZ⟩⟩
  ·replace c7 := Bool.eq_false_iff.mpr c7
   subst c7
   have H1 : (spec_SameNetwork.j0 k true l0_0 l0_1 l1_0 l1_1) = some r := by rw [if_neg (show ¬ (false = true) by decide)] at H; exact H
   clear H
   have H := H1
   clear H1
   have H' := Aside0.mk H
   clear H
   have hnb11 := NB133_134.out
   have hnc11 := NB134_133.out
   have hcz12_0 := bc0 BK133.out
   have hcz12_1 := bc1 BK133.out
   have hfz12_0 := blk_frozen BK133.out 0
   have hfz12_1 := blk_frozen BK133.out 1
   have hcz13_0 := bc0 BK134.out
   have hcz13_1 := bc1 BK134.out
   have hfz13_0 := blk_frozen BK134.out 0
   have hfz13_1 := blk_frozen BK134.out 1
   go_wp2_with (first | (go_at_call 19; (with_reducible refine (spec_l00Same.calls k _ _ l0_0 _ _ l1_0 false _ ?side1 ?side2 ?side3 ?side4 A6.out).mono ?_); (case side1 => repeat (first | exact (Kd.C_below HR0_0.out HB.out) | (with_reducible refine Kd.C_alloc ?_ _) | (with_reducible refine Kd.C_drewN ?_ _) | (with_reducible refine Kd.C_drew ?_))); (case side2 => exact HC0_0.out); (case side3 => repeat (first | exact (Kd.C_below HR1_0.out HB.out) | (with_reducible refine Kd.C_alloc ?_ _) | (with_reducible refine Kd.C_drewN ?_ _) | (with_reducible refine Kd.C_drew ?_))); (case side4 => exact HC1_0.out); rintro e w' ⟨rfl, ⟨nd, rfl⟩⟩; (try first | exact ⟨rfl, _, World.drewN_drewN _ _ _⟩ | exact ⟨rfl, _, Eq.trans (World.drewN_drewN _ _ _) (congrArg (World.drewN _) (Nat.add_assoc _ _ _))⟩)))
   repeat (go_quiet (first | (go_at_call 19; (with_reducible refine (spec_l00Same.calls k _ _ l0_0 _ _ l1_0 false _ ?side1 ?side2 ?side3 ?side4 A6.out).mono ?_); (case side1 => repeat (first | exact (Kd.C_below HR0_0.out HB.out) | (with_reducible refine Kd.C_alloc ?_ _) | (with_reducible refine Kd.C_drewN ?_ _) | (with_reducible refine Kd.C_drew ?_))); (case side2 => exact HC0_0.out); (case side3 => repeat (first | exact (Kd.C_below HR1_0.out HB.out) | (with_reducible refine Kd.C_alloc ?_ _) | (with_reducible refine Kd.C_drewN ?_ _) | (with_reducible refine Kd.C_drew ?_))); (case side4 => exact HC1_0.out); rintro e w' ⟨rfl, ⟨nd, rfl⟩⟩; (try first | exact ⟨rfl, _, World.drewN_drewN _ _ _⟩ | exact ⟨rfl, _, Eq.trans (World.drewN_drewN _ _ _) (congrArg (World.drewN _) (Nat.add_assoc _ _ _))⟩))); try go_wp2_with (first | (go_at_call 19; (with_reducible refine (spec_l00Same.calls k _ _ l0_0 _ _ l1_0 false _ ?side1 ?side2 ?side3 ?side4 A6.out).mono ?_); (case side1 => repeat (first | exact (Kd.C_below HR0_0.out HB.out) | (with_reducible refine Kd.C_alloc ?_ _) | (with_reducible refine Kd.C_drewN ?_ _) | (with_reducible refine Kd.C_drew ?_))); (case side2 => exact HC0_0.out); (case side3 => repeat (first | exact (Kd.C_below HR1_0.out HB.out) | (with_reducible refine Kd.C_alloc ?_ _) | (with_reducible refine Kd.C_drewN ?_ _) | (with_reducible refine Kd.C_drew ?_))); (case side4 => exact HC1_0.out); rintro e w' ⟨rfl, ⟨nd, rfl⟩⟩; (try first | exact ⟨rfl, _, World.drewN_drewN _ _ _⟩ | exact ⟨rfl, _, Eq.trans (World.drewN_drewN _ _ _) (congrArg (World.drewN _) (Nat.add_assoc _ _ _))⟩))))
   go_meet
   case rel => exact ⟨_, (true), sZ, H', ⟨by first | omega | exact Nat.le_refl _⟩, ⟨kZ BK133.out⟩, ⟨kZ BK134.out⟩, ⟨bZ⟩⟩
 case rest =>
  clear HC3; (try clear c1); (try clear p2); (try clear c7); (try clear c8); (try clear c11); (try clear hcz10_0); (try clear hcz10_1); (try clear hcz12_0); (try clear hcz12_1); (try clear hcz13_0); (try clear hcz13_1); (try clear hcz9_0); (try clear hcz9_1); (try clear hfz10_0); (try clear hfz10_1); (try clear hfz12_0); (try clear hfz12_1); (try clear hfz13_0); (try clear hfz13_1); (try clear hfz9_0); (try clear hfz9_1)
  obtain ⟨kq, x20_2, rfl, HA, HJ2, BK133, BK134, HB⟩ := hcut
  cases kq with
  | zero => exact absurd HA.out (by simp [spec_SameNetwork.j0])
  | succ kj2 =>
   have H := HA.out
   clear HA
   simp only [spec_SameNetwork.j0] at H
   by_cases c14 : x20_2 = true
   ·subst c14
    have H1 : (some false) = some r := by rw [if_pos rfl] at H; exact H
    clear H
    have H := H1
    clear H1
    obtain rfl := Option.some.inj H
    go_wp2
    repeat (go_quiet (fail); try go_wp2)
    go_ret
    exact ⟨eZ, bZ⟩
   ·replace c14 := Bool.eq_false_iff.mpr c14
    subst c14
    have H1 : (spec_SameNetwork.l0 kj2 0 l0_0 l0_1 l1_0 l1_1) = some r := by rw [if_neg (show ¬ (false = true) by decide)] at H; exact H
    clear H
    have H := H1
    clear H1
    have H' := Aside0.mk H
    clear H
    go_wp2
    repeat (go_quiet (fail); try go_wp2)
    go_loopg [5] kj2 (fun kq v5 w' => ∃ (x5_2 : Int), v5 = .int .i64 x5_2 ∧ Aside0 (spec_SameNetwork.l0 kq x5_2 l0_0 l0_1 l1_0 l1_1 = some r) ∧ Aside0 (kq ≤ kj2) ∧ Aside0 (w'.heap[gb133]? = some (.cells #[(.slice A0_0 l0_0.length c0_0), (.slice A0_1 l0_1.length c0_1)] 41 (0, 0))) ∧ Aside0 (w'.heap[gb134]? = some (.cells #[(.slice A1_0 l1_0.length c1_0), (.slice A1_1 l1_1.length c1_1)] 41 (0, 0))) ∧ Aside0 (Below w.heap.size w w'))
    case atStart => exact ⟨(0), sZ, H', ⟨Nat.le_refl _⟩, ⟨kZ BK133.out⟩, ⟨kZ BK134.out⟩, ⟨bZ⟩⟩
    case round =>
     clear H'; (try clear c1); (try clear p2); (try clear c7); (try clear c8); (try clear c11); (try clear c14); (try clear hcz10_0); (try clear hcz10_1); (try clear hcz12_0); (try clear hcz12_1); (try clear hcz13_0); (try clear hcz13_1); (try clear hcz9_0); (try clear hcz9_1); (try clear hfz10_0); (try clear hfz10_1); (try clear hfz12_0); (try clear hfz12_1); (try clear hfz13_0); (try clear hfz13_1); (try clear hfz9_0); (try clear hfz9_1); (try clear p2)
     obtain ⟨x5_2, rfl, HA, HK2, BK133, BK134, HB⟩ := hrel
     cases gk with
     | zero => exact absurd HA.out (by simp [spec_SameNetwork.l0])
     | succ k2 =>
      have H := HA.out
      clear HA
      simp only [spec_SameNetwork.l0] at H
      by_cases c15 : x5_2 < (l0_1.length : Int)
      ·rw [if_pos c15] at H
       have c15b0 : decide (x5_2 < (l0_1.length : Int)) = true := decide_eq_true c15
       clear c15
       by_cases c16 : 0 ≤ x5_2
       ·rw [if_pos c16] at H
        have c16b0 : decide (0 ≤ x5_2) = true := decide_eq_true c16
        clear c16
        by_cases c17 : x5_2 < (l1_1.length : Int)
        ·rw [if_pos c17] at H
         have c17b0 : decide (x5_2 < (l1_1.length : Int)) = true := decide_eq_true c17
         clear c17
         by_cases c18 : (!((((rd_T118 l0_1 x5_2).f0).toList) == (((rd_T118 l1_1 x5_2).f0).toList)) || (!(((rd_T118 l0_1 x5_2).f1) == ((rd_T118 l1_1 x5_2).f1)) || (!(((rd_T118 l0_1 x5_2).f2) == ((rd_T118 l1_1 x5_2).f2)) || (!(((rd_T118 l0_1 x5_2).f3) == ((rd_T118 l1_1 x5_2).f3)) || (!(((rd_T118 l0_1 x5_2).f4) == ((rd_T118 l1_1 x5_2).f4)) || (!(((rd_T118 l0_1 x5_2).f5) == ((rd_T118 l1_1 x5_2).f5)))))))) = true
         ·rw [if_pos c18] at H
          have c18b0 : (!((((rd_T118 l0_1 x5_2).f0).toList) == (((rd_T118 l1_1 x5_2).f0).toList)) || (!(((rd_T118 l0_1 x5_2).f1) == ((rd_T118 l1_1 x5_2).f1)) || (!(((rd_T118 l0_1 x5_2).f2) == ((rd_T118 l1_1 x5_2).f2)) || (!(((rd_T118 l0_1 x5_2).f3) == ((rd_T118 l1_1 x5_2).f3)) || (!(((rd_T118 l0_1 x5_2).f4) == ((rd_T118 l1_1 x5_2).f4)) || (!(((rd_T118 l0_1 x5_2).f5) == ((rd_T118 l1_1 x5_2).f5)))))))) = true := c18
          clear c18
          obtain rfl := Option.some.inj H
          have hnb19 := NB133_134.out
          have hnc19 := NB134_133.out
          have hcz20_0 := bc0 BK133.out
          have hcz20_1 := bc1 BK133.out
          have hfz20_0 := blk_frozen BK133.out 0
          have hfz20_1 := blk_frozen BK133.out 1
          have p136 : 0 ≤ (x5_2 : Int) := oZ
          have q136 : x5_2 < (l0_1.length : Int) := oZ
          obtain ⟨ad136, e136, hx136_0, hx136_1, hx136_2, hx136_3, hx136_4, hx136_5⟩ := at_T118 HR0_1.out x5_2 p136 q136
          cases e136
          replace hx136_0 := (HB.out.cell (World.block_lt_of_cell? w _ hx136_0)).trans hx136_0
          replace hx136_1 := (HB.out.cell (World.block_lt_of_cell? w _ hx136_1)).trans hx136_1
          replace hx136_2 := (HB.out.cell (World.block_lt_of_cell? w _ hx136_2)).trans hx136_2
          replace hx136_3 := (HB.out.cell (World.block_lt_of_cell? w _ hx136_3)).trans hx136_3
          replace hx136_4 := (HB.out.cell (World.block_lt_of_cell? w _ hx136_4)).trans hx136_4
          replace hx136_5 := (HB.out.cell (World.block_lt_of_cell? w _ hx136_5)).trans hx136_5
          replace p136 := eq_true p136
          replace q136 := eq_true q136
          have hcz21_0 := bc0 BK134.out
          have hcz21_1 := bc1 BK134.out
          have hfz21_0 := blk_frozen BK134.out 0
          have hfz21_1 := blk_frozen BK134.out 1
          have p137 : 0 ≤ (x5_2 : Int) := oZ
          have q137 : x5_2 < (l1_1.length : Int) := oZ
          obtain ⟨ad137, e137, hx137_0, hx137_1, hx137_2, hx137_3, hx137_4, hx137_5⟩ := at_T118 HR1_1.out x5_2 p137 q137
          cases e137
          replace hx137_0 := (HB.out.cell (World.block_lt_of_cell? w _ hx137_0)).trans hx137_0
          replace hx137_1 := (HB.out.cell (World.block_lt_of_cell? w _ hx137_1)).trans hx137_1
          replace hx137_2 := (HB.out.cell (World.block_lt_of_cell? w _ hx137_2)).trans hx137_2
          replace hx137_3 := (HB.out.cell (World.block_lt_of_cell? w _ hx137_3)).trans hx137_3
          replace hx137_4 := (HB.out.cell (World.block_lt_of_cell? w _ hx137_4)).trans hx137_4
          replace hx137_5 := (HB.out.cell (World.block_lt_of_cell? w _ hx137_5)).trans hx137_5
          replace p137 := eq_true p137
          replace q137 := eq_true q137
          go_wp2
          repeat (go_quiet (fail); try go_wp2)
          go_ret
          exact ⟨eZ, bZ⟩
         ·rw [if_neg c18] at H
          have c18b0 : (!((((rd_T118 l0_1 x5_2).f0).toList) == (((rd_T118 l1_1 x5_2).f0).toList)) || (!(((rd_T118 l0_1 x5_2).f1) == ((rd_T118 l1_1 x5_2).f1)) || (!(((rd_T118 l0_1 x5_2).f2) == ((rd_T118 l1_1 x5_2).f2)) || (!(((rd_T118 l0_1 x5_2).f3) == ((rd_T118 l1_1 x5_2).f3)) || (!(((rd_T118 l0_1 x5_2).f4) == ((rd_T118 l1_1 x5_2).f4)) || (!(((rd_T118 l0_1 x5_2).f5) == ((rd_T118 l1_1 x5_2).f5)))))))) = false := by simpa using c18
          clear c18
          have H' := Aside0.mk H
          clear H
          have hnb22 := NB133_134.out
          have hnc22 := NB134_133.out
          have hcz23_0 := bc0 BK133.out
          have hcz23_1 := bc1 BK133.out
          have hfz23_0 := blk_frozen BK133.out 0
          have hfz23_1 := blk_frozen BK133.out 1
          have p136 : 0 ≤ (x5_2 : Int) := oZ
          have q136 : x5_2 < (l0_1.length : Int) := oZ
          obtain ⟨ad136, e136, hx136_0, hx136_1, hx136_2, hx136_3, hx136_4, hx136_5⟩ := at_T118 HR0_1.out x5_2 p136 q136
          cases e136
          replace hx136_0 := (HB.out.cell (World.block_lt_of_cell? w _ hx136_0)).trans hx136_0
          replace hx136_1 := (HB.out.cell (World.block_lt_of_cell? w _ hx136_1)).trans hx136_1
          replace hx136_2 := (HB.out.cell (World.block_lt_of_cell? w _ hx136_2)).trans hx136_2
          replace hx136_3 := (HB.out.cell (World.block_lt_of_cell? w _ hx136_3)).trans hx136_3
          replace hx136_4 := (HB.out.cell (World.block_lt_of_cell? w _ hx136_4)).trans hx136_4
          replace hx136_5 := (HB.out.cell (World.block_lt_of_cell? w _ hx136_5)).trans hx136_5
          replace p136 := eq_true p136
          replace q136 := eq_true q136
          have hcz24_0 := bc0 BK134.out
          have hcz24_1 := bc1 BK134.out
          have hfz24_0 := blk_frozen BK134.out 0
          have hfz24_1 := blk_frozen BK134.out 1
          have p137 : 0 ≤ (x5_2 : Int) := oZ
          have q137 : x5_2 < (l1_1.length : Int) := oZ
          obtain ⟨ad137, e137, hx137_0, hx137_1, hx137_2, hx137_3, hx137_4, hx137_5⟩ := at_T118 HR1_1.out x5_2 p137 q137
          cases e137
          replace hx137_0 := (HB.out.cell (World.block_lt_of_cell? w _ hx137_0)).trans hx137_0
          replace hx137_1 := (HB.out.cell (World.block_lt_of_cell? w _ hx137_1)).trans hx137_1
          replace hx137_2 := (HB.out.cell (World.block_lt_of_cell? w _ hx137_2)).trans hx137_2
          replace hx137_3 := (HB.out.cell (World.block_lt_of_cell? w _ hx137_3)).trans hx137_3
          replace hx137_4 := (HB.out.cell (World.block_lt_of_cell? w _ hx137_4)).trans hx137_4
          replace hx137_5 := (HB.out.cell (World.block_lt_of_cell? w _ hx137_5)).trans hx137_5
          replace p137 := eq_true p137
          replace q137 := eq_true q137
          go_wp2
          repeat (go_quiet (fail); try go_wp2)
          go_roundg k2
          case measure => have := HJ2.out; have := HK2.out; omega
          case rel => exact ⟨(wrap64 (x5_2 + 1)), sZ, H', ⟨by have := HJ2.out; have := HK2.out; omega⟩, ⟨kZ BK133.out⟩, ⟨kZ BK134.out⟩, ⟨bZ⟩⟩
        ·rw [if_neg c17] at H
         exact absurd H (by simp)
       ·rw [if_neg c16] at H
        exact absurd H (by simp)
      ·rw [if_neg c15] at H
       have c15b0 : decide (x5_2 < (l0_1.length : Int)) = false := decide_eq_false c15
       clear c15
       obtain rfl := Option.some.inj H
       have hnb25 := NB133_134.out
       have hnc25 := NB134_133.out
       have hcz26_0 := bc0 BK133.out
       have hcz26_1 := bc1 BK133.out
       have hfz26_0 := blk_frozen BK133.out 0
       have hfz26_1 := blk_frozen BK133.out 1
       go_wp2
       repeat (go_quiet (fail); try go_wp2)
       go_ret
       exact ⟨eZ, bZ⟩
end Go.Proofs.Ytmfhncjkfhdlcaa.XM
end

section
namespace Go.Proofs.Ytmfhncjkfhdlcaa.XM
open Go.RowKit Go.Proofs.YtmfhncjkfhdlcaaW.PrintWords Go.Proofs.YtmfhncjkfhdlcaaW.PrintLast Go.Proofs.YtmfhncjkfhdlcaaW.PrintMore
attribute [local go_sem] run_eql_slice_nil binOp_string_gtr' binOp_string_leq' binOp_string_geq' max2_int min2_int max_two min_two max_three min_three max_four min_four   -- for this text's walks alone
set_option linter.unusedVariables false
set_option linter.unusedSimpArgs false
mutual
def spec_l08Same.j0 : Nat → Bool → ByteArray → List (List Int) → ByteArray → List (List Int) → Option (Bool)
 | 0, _, _, _, _, _ => none
 | k + 1, x27, x1000, x1001, x2000, x2001 => if x27 = true then (some false) else (spec_l08Same.l0 k 0 x1000 x1001 x2000 x2001)
def spec_l08Same.l0 : Nat → Int → ByteArray → List (List Int) → ByteArray → List (List Int) → Option (Bool)
 | 0, _, _, _, _, _ => none
 | k + 1, x5, x1000, x1001, x2000, x2001 => if x5 < (x1001.length : Int) then (if 0 ≤ x5 then (if x5 < (x2001.length : Int) then ((spec_l00Same.f k (rd_L5 x1001 x5) (rd_L5 x2001 x5)).bind fun t140 => (if t140 = true then (spec_l08Same.l0 k (wrap64 (x5 + 1)) x1000 x1001 x2000 x2001) else (some false))) else (none)) else (none)) else (some true)
end
def spec_l08Same.f (k : Nat) (a0_0 : ByteArray) (l0_1 : List (List Int)) (a1_0 : ByteArray) (l1_1 : List (List Int)) : Option (Bool) := if a0_0.toList = a1_0.toList then (spec_l08Same.j0 k ((l0_1.length : Int) != (l1_1.length : Int)) a0_0 l0_1 a1_0 l1_1) else (spec_l08Same.j0 k true a0_0 l0_1 a1_0 l1_1)
set_option maxHeartbeats 8000000 in
set_option maxRecDepth 100000 in
theorem spec_l08Same.calls (k : Nat) (v0 : Addr) (a0_0 : ByteArray) (A0_1 : Option Addr) (c0_1 : Nat) (l0_1 : List (List Int)) (v1 : Addr) (a1_0 : ByteArray) (A1_1 : Option Addr) (c1_1 : Nat) (l1_1 : List (List Int)) (r : Bool) (w : World) (hr0_1 : Kd.C (Kd.slice 2 (Kd.int .i64)) w A0_1 l0_1.length l0_1) (hc0_1 : l0_1.length ≤ c0_1) (hr1_1 : Kd.C (Kd.slice 2 (Kd.int .i64)) w A1_1 l1_1.length l1_1) (hc1_1 : l1_1.length ≤ c1_1) (hv0 : ViewAt w v0 [.string a0_0, .slice A0_1 l0_1.length c0_1]) (hv1 : ViewAt w v1 [.string a1_0, .slice A1_1 l1_1.length c1_1]) (h : spec_l08Same.f k a0_0 l0_1 a1_0 l1_1 = some r) :
  Calls Try.prog 20 #[.pointer (some v0), .pointer (some v1)] w fun e w' => e = .returned (.bool r) ∧ Drawn0 w w' := by
 have HR0_1 := Aside0.mk hr0_1
 have HC0_1 := Aside0.mk hc0_1
 clear hr0_1 hc0_1
 have HR1_1 := Aside0.mk hr1_1
 have HC1_1 := Aside0.mk hc1_1
 clear hr1_1 hc1_1
 have HV0 := Aside0.mk hv0
 have hvw0_0 : w.cell? v0 = some (.string a0_0) := hv0.at0
 have hvw0_1 : w.cell? ⟨v0.block, v0.off + 1, none⟩ = some (.slice A0_1 l0_1.length c0_1) := hv0.at_ 1 (by decide) rfl
 clear hv0
 have HV1 := Aside0.mk hv1
 have hvw1_0 : w.cell? v1 = some (.string a1_0) := hv1.at0
 have hvw1_1 : w.cell? ⟨v1.block, v1.off + 1, none⟩ = some (.slice A1_1 l1_1.length c1_1) := hv1.at_ 1 (by decide) rfl
 clear hv1
 have H : (if a0_0.toList = a1_0.toList then (spec_l08Same.j0 k ((l0_1.length : Int) != (l1_1.length : Int)) a0_0 l0_1 a1_0 l1_1) else (spec_l08Same.j0 k true a0_0 l0_1 a1_0 l1_1)) = some r := h
 clear h
 have HC3 := Aside0.mk H
 clear H
 go_enter Try.func20, Try.ntmps20
 go_upto_region 1 with (fail)
 repeat (go_quiet (fail); go_upto_region 1 with (fail))
 go_cut [27] (fun v27 wc => ∃ (kq : Nat) (x27_2 : Bool), v27 = .bool x27_2 ∧ Aside0 (spec_l08Same.j0 kq x27_2 a0_0 l0_1 a1_0 l1_1 = some r) ∧ Aside0 (kq ≤ k) ∧ Drawn0 w wc)
 case first =>
  have H := HC3.out
  clear HC3
  by_cases c4 : a0_0.toList = a1_0.toList
  ·rw [if_pos c4] at H
   have c4b0 : (a0_0.toList == a1_0.toList) = true := beq_iff_eq.mpr c4
   have c4b1 : (a0_0.toList != a1_0.toList) = false := bne_eq_false_iff_eq.mpr c4
   clear c4
   (first | rw [c4b0] | (simp only [i64_w, i32_w]; rw [c4b0]) | skip)
   have H' := Aside0.mk H
   clear H
   go_wp2
   repeat (go_quiet (fail); try go_wp2)
   go_meet
   case rel => exact ⟨_, (((l0_1.length : Int) != (l1_1.length : Int))), sZ, H', ⟨by first | omega | exact Nat.le_refl _⟩, dZ⟩
  ·rw [if_neg c4] at H
   have c4b0 : (a0_0.toList == a1_0.toList) = false := beq_eq_false_iff_ne.mpr c4
   have c4b1 : (a0_0.toList != a1_0.toList) = true := bne_iff_ne.mpr c4
   (first | rw [c4b0] | (simp only [i64_w, i32_w]; rw [c4b0]) | skip)
   have H' := Aside0.mk H
   clear H
   go_wp2
   repeat (go_quiet (fail); try go_wp2)
   go_meet
   case rel => exact ⟨_, (true), sZ, H', ⟨by first | omega | exact Nat.le_refl _⟩, dZ⟩
 case rest =>
  clear HC3; (try clear c1); (try clear c2); (try clear p2); (try clear c4); (try clear c4b0); (try clear c4b1)
  obtain ⟨kq, x27_2, rfl, HA, HJ2, ⟨mc2, rfl⟩⟩ := hcut
  cases kq with
  | zero => exact absurd HA.out (by simp [spec_l08Same.j0])
  | succ kj2 =>
   have H := HA.out
   clear HA
   simp only [spec_l08Same.j0] at H
   by_cases c5 : x27_2 = true
   ·subst c5
    have H1 : (some false) = some r := by rw [if_pos rfl] at H; exact H
    clear H
    have H := H1
    clear H1
    obtain rfl := Option.some.inj H
    go_wp2
    repeat (go_quiet (fail); try go_wp2)
    go_ret
    exact ⟨sZ, dZ⟩
   ·replace c5 := Bool.eq_false_iff.mpr c5
    subst c5
    have H1 : (spec_l08Same.l0 kj2 0 a0_0 l0_1 a1_0 l1_1) = some r := by rw [if_neg (show ¬ (false = true) by decide)] at H; exact H
    clear H
    have H := H1
    clear H1
    have H' := Aside0.mk H
    clear H
    go_wp2
    repeat (go_quiet (fail); try go_wp2)
    go_loopg [5] kj2 (fun kq v5 w' => ∃ (x5_2 : Int), v5 = .int .i64 x5_2 ∧ Aside0 (spec_l08Same.l0 kq x5_2 a0_0 l0_1 a1_0 l1_1 = some r) ∧ Aside0 (kq ≤ kj2) ∧ Drawn0 w w')
    case atStart => exact ⟨(0), sZ, H', ⟨Nat.le_refl _⟩, dZ⟩
    case round =>
     clear H'; (try clear c1); (try clear c2); (try clear p2); (try clear c4); (try clear c4b0); (try clear c4b1); (try clear c5); (try clear p2)
     obtain ⟨x5_2, rfl, HA, HK2, ⟨m2, rfl⟩⟩ := hrel
     cases gk with
     | zero => exact absurd HA.out (by simp [spec_l08Same.l0])
     | succ k2 =>
      have H := HA.out
      clear HA
      simp only [spec_l08Same.l0] at H
      by_cases c6 : x5_2 < (l0_1.length : Int)
      ·rw [if_pos c6] at H
       have c6b0 : decide (x5_2 < (l0_1.length : Int)) = true := decide_eq_true c6
       clear c6
       by_cases c7 : 0 ≤ x5_2
       ·rw [if_pos c7] at H
        have c7b0 : decide (0 ≤ x5_2) = true := decide_eq_true c7
        clear c7
        by_cases c8 : x5_2 < (l1_1.length : Int)
        ·rw [if_pos c8] at H
         have c8b0 : decide (x5_2 < (l1_1.length : Int)) = true := decide_eq_true c8
         clear c8
         replace H := Option.bind_eq_some_iff.mp H
         obtain ⟨t140, A90, H⟩ := H
         replace H : (if t140 = true then (spec_l08Same.l0 k2 (wrap64 (x5_2 + 1)) a0_0 l0_1 a1_0 l1_1) else (some false)) = some r := H
         have A9 := Aside0.mk A90
         clear A90
         by_cases c10 : t140 = true
         ·subst c10
          have H1 : (spec_l08Same.l0 k2 (wrap64 (x5_2 + 1)) a0_0 l0_1 a1_0 l1_1) = some r := by rw [if_pos rfl] at H; exact H
          clear H
          have H := H1
          clear H1
          have H' := Aside0.mk H
          clear H
          have p138 : 0 ≤ (x5_2 : Int) := oZ
          have q138 : x5_2 < (l0_1.length : Int) := oZ
          obtain ⟨ad138, A138_0, c138_0, e138, hx138_0, hl138_0, hi138_0⟩ := at_L5 HR0_1.out x5_2 p138 q138
          cases e138
          have HR138_0 := Aside0.mk hi138_0
          have HC138_0 := Aside0.mk hl138_0
          clear hi138_0 hl138_0
          replace p138 := eq_true p138
          replace q138 := eq_true q138
          have p139 : 0 ≤ (x5_2 : Int) := oZ
          have q139 : x5_2 < (l1_1.length : Int) := oZ
          obtain ⟨ad139, A139_0, c139_0, e139, hx139_0, hl139_0, hi139_0⟩ := at_L5 HR1_1.out x5_2 p139 q139
          cases e139
          have HR139_0 := Aside0.mk hi139_0
          have HC139_0 := Aside0.mk hl139_0
          clear hi139_0 hl139_0
          replace p139 := eq_true p139
          replace q139 := eq_true q139
          go_wp2_with (first | (go_at_call 19; (with_reducible refine (spec_l00Same.calls k2 _ _ (rd_L5 l0_1 x5_2) _ _ (rd_L5 l1_1 x5_2) true _ ?side1 ?side2 ?side3 ?side4 A9.out).mono ?_); (case side1 => repeat (first | exact HR138_0.out | (with_reducible refine Kd.C_alloc ?_ _) | (with_reducible refine Kd.C_drewN ?_ _) | (with_reducible refine Kd.C_drew ?_))); (case side2 => exact HC138_0.out); (case side3 => repeat (first | exact HR139_0.out | (with_reducible refine Kd.C_alloc ?_ _) | (with_reducible refine Kd.C_drewN ?_ _) | (with_reducible refine Kd.C_drew ?_))); (case side4 => exact HC139_0.out); rintro e w' ⟨rfl, ⟨nd, rfl⟩⟩; (try first | exact ⟨rfl, _, World.drewN_drewN _ _ _⟩ | exact ⟨rfl, _, Eq.trans (World.drewN_drewN _ _ _) (congrArg (World.drewN _) (Nat.add_assoc _ _ _))⟩)))
          repeat (go_quiet (first | (go_at_call 19; (with_reducible refine (spec_l00Same.calls k2 _ _ (rd_L5 l0_1 x5_2) _ _ (rd_L5 l1_1 x5_2) true _ ?side1 ?side2 ?side3 ?side4 A9.out).mono ?_); (case side1 => repeat (first | exact HR138_0.out | (with_reducible refine Kd.C_alloc ?_ _) | (with_reducible refine Kd.C_drewN ?_ _) | (with_reducible refine Kd.C_drew ?_))); (case side2 => exact HC138_0.out); (case side3 => repeat (first | exact HR139_0.out | (with_reducible refine Kd.C_alloc ?_ _) | (with_reducible refine Kd.C_drewN ?_ _) | (with_reducible refine Kd.C_drew ?_))); (case side4 => exact HC139_0.out); rintro e w' ⟨rfl, ⟨nd, rfl⟩⟩; (try first | exact ⟨rfl, _, World.drewN_drewN _ _ _⟩ | exact ⟨rfl, _, Eq.trans (World.drewN_drewN _ _ _) (congrArg (World.drewN _) (Nat.add_assoc _ _ _))⟩))); try go_wp2_with (first | (go_at_call 19; (with_reducible refine (spec_l00Same.calls k2 _ _ (rd_L5 l0_1 x5_2) _ _ (rd_L5 l1_1 x5_2) true _ ?side1 ?side2 ?side3 ?side4 A9.out).mono ?_); (case side1 => repeat (first | exact HR138_0.out | (with_reducible refine Kd.C_alloc ?_ _) | (with_reducible refine Kd.C_drewN ?_ _) | (with_reducible refine Kd.C_drew ?_))); (case side2 => exact HC138_0.out); (case side3 => repeat (first | exact HR139_0.out | (with_reducible refine Kd.C_alloc ?_ _) | (with_reducible refine Kd.C_drewN ?_ _) | (with_reducible refine Kd.C_drew ?_))); (case side4 => exact HC139_0.out); rintro e w' ⟨rfl, ⟨nd, rfl⟩⟩; (try first | exact ⟨rfl, _, World.drewN_drewN _ _ _⟩ | exact ⟨rfl, _, Eq.trans (World.drewN_drewN _ _ _) (congrArg (World.drewN _) (Nat.add_assoc _ _ _))⟩))))
          go_roundg k2
          case measure => have := HJ2.out; have := HK2.out; omega
          case rel => exact ⟨(wrap64 (x5_2 + 1)), sZ, H', ⟨by have := HJ2.out; have := HK2.out; omega⟩, dZ⟩
         ·replace c10 := Bool.eq_false_iff.mpr c10
          subst c10
          have H1 : (some false) = some r := by rw [if_neg (show ¬ (false = true) by decide)] at H; exact H
          clear H
          have H := H1
          clear H1
          obtain rfl := Option.some.inj H
          have p138 : 0 ≤ (x5_2 : Int) := oZ
          have q138 : x5_2 < (l0_1.length : Int) := oZ
          obtain ⟨ad138, A138_0, c138_0, e138, hx138_0, hl138_0, hi138_0⟩ := at_L5 HR0_1.out x5_2 p138 q138
          cases e138
          have HR138_0 := Aside0.mk hi138_0
          have HC138_0 := Aside0.mk hl138_0
          clear hi138_0 hl138_0
          replace p138 := eq_true p138
          replace q138 := eq_true q138
          have p139 : 0 ≤ (x5_2 : Int) := oZ
          have q139 : x5_2 < (l1_1.length : Int) := oZ
          obtain ⟨ad139, A139_0, c139_0, e139, hx139_0, hl139_0, hi139_0⟩ := at_L5 HR1_1.out x5_2 p139 q139
          cases e139
          have HR139_0 := Aside0.mk hi139_0
          have HC139_0 := Aside0.mk hl139_0
          clear hi139_0 hl139_0
          replace p139 := eq_true p139
          replace q139 := eq_true q139
          go_wp2_with (first | (go_at_call 19; (with_reducible refine (spec_l00Same.calls k2 _ _ (rd_L5 l0_1 x5_2) _ _ (rd_L5 l1_1 x5_2) false _ ?side1 ?side2 ?side3 ?side4 A9.out).mono ?_); (case side1 => repeat (first | exact HR138_0.out | (with_reducible refine Kd.C_alloc ?_ _) | (with_reducible refine Kd.C_drewN ?_ _) | (with_reducible refine Kd.C_drew ?_))); (case side2 => exact HC138_0.out); (case side3 => repeat (first | exact HR139_0.out | (with_reducible refine Kd.C_alloc ?_ _) | (with_reducible refine Kd.C_drewN ?_ _) | (with_reducible refine Kd.C_drew ?_))); (case side4 => exact HC139_0.out); rintro e w' ⟨rfl, ⟨nd, rfl⟩⟩; (try first | exact ⟨rfl, _, World.drewN_drewN _ _ _⟩ | exact ⟨rfl, _, Eq.trans (World.drewN_drewN _ _ _) (congrArg (World.drewN _) (Nat.add_assoc _ _ _))⟩)))
          repeat (go_quiet (first | (go_at_call 19; (with_reducible refine (spec_l00Same.calls k2 _ _ (rd_L5 l0_1 x5_2) _ _ (rd_L5 l1_1 x5_2) false _ ?side1 ?side2 ?side3 ?side4 A9.out).mono ?_); (case side1 => repeat (first | exact HR138_0.out | (with_reducible refine Kd.C_alloc ?_ _) | (with_reducible refine Kd.C_drewN ?_ _) | (with_reducible refine Kd.C_drew ?_))); (case side2 => exact HC138_0.out); (case side3 => repeat (first | exact HR139_0.out | (with_reducible refine Kd.C_alloc ?_ _) | (with_reducible refine Kd.C_drewN ?_ _) | (with_reducible refine Kd.C_drew ?_))); (case side4 => exact HC139_0.out); rintro e w' ⟨rfl, ⟨nd, rfl⟩⟩; (try first | exact ⟨rfl, _, World.drewN_drewN _ _ _⟩ | exact ⟨rfl, _, Eq.trans (World.drewN_drewN _ _ _) (congrArg (World.drewN _) (Nat.add_assoc _ _ _))⟩))); try go_wp2_with (first | (go_at_call 19; (with_reducible refine (spec_l00Same.calls k2 _ _ (rd_L5 l0_1 x5_2) _ _ (rd_L5 l1_1 x5_2) false _ ?side1 ?side2 ?side3 ?side4 A9.out).mono ?_); (case side1 => repeat (first | exact HR138_0.out | (with_reducible refine Kd.C_alloc ?_ _) | (with_reducible refine Kd.C_drewN ?_ _) | (with_reducible refine Kd.C_drew ?_))); (case side2 => exact HC138_0.out); (case side3 => repeat (first | exact HR139_0.out | (with_reducible refine Kd.C_alloc ?_ _) | (with_reducible refine Kd.C_drewN ?_ _) | (with_reducible refine Kd.C_drew ?_))); (case side4 => exact HC139_0.out); rintro e w' ⟨rfl, ⟨nd, rfl⟩⟩; (try first | exact ⟨rfl, _, World.drewN_drewN _ _ _⟩ | exact ⟨rfl, _, Eq.trans (World.drewN_drewN _ _ _) (congrArg (World.drewN _) (Nat.add_assoc _ _ _))⟩))))
          go_ret
          exact ⟨sZ, dZ⟩
        ·rw [if_neg c8] at H
         exact absurd H (by simp)
       ·rw [if_neg c7] at H
        exact absurd H (by simp)
      ·rw [if_neg c6] at H
       have c6b0 : decide (x5_2 < (l0_1.length : Int)) = false := decide_eq_false c6
       clear c6
       obtain rfl := Option.some.inj H
       go_wp2
       repeat (go_quiet (fail); try go_wp2)
       go_ret
       exact ⟨sZ, dZ⟩
end Go.Proofs.Ytmfhncjkfhdlcaa.XM
end

section
namespace Go.Proofs.Ytmfhncjkfhdlcaa.XM
open Go.RowKit Go.Proofs.YtmfhncjkfhdlcaaW.PrintWords Go.Proofs.YtmfhncjkfhdlcaaW.PrintLast Go.Proofs.YtmfhncjkfhdlcaaW.PrintMore
attribute [local go_sem] run_eql_slice_nil binOp_string_gtr' binOp_string_leq' binOp_string_geq' max2_int min2_int max_two min_two max_three min_three max_four min_four   -- for this text's walks alone
set_option linter.unusedVariables false
set_option linter.unusedSimpArgs false
attribute [local go_sem high] eqA66 eqA73 eqA75 eqA77 eqA79 eqA81
def spec_SameDesk.allB (g : Int → Bool) : Nat → Nat → Bool
 | 0, _ => true
 | m + 1, q => !g (q : Int) && spec_SameDesk.allB g m (q + 1)
def spec_SameDesk.allO (g : Int → Option Bool) : Nat → Nat → Option Bool
 | 0, _ => some true
 | m + 1, q => (g (q : Int)).bind fun b => if b = true then spec_SameDesk.allO g m (q + 1) else some false
section
variable {P : Program} {ops : Array Oper} {rest : List Oper} {o : Oper} {a : Act} {Q : Exit → Act → World → Prop} {W : World}
end
theorem spec_SameDesk.no {t ln : Bool} {z : Option Bool} {r : Bool} (H : (if t = true then some false else if ln = true then z else some false) = some r) (hd : t = true ∨ ln = false) : r = false := by
 rcases hd with rfl | rfl
 ·simpa using H.symm
 ·cases t <;> simpa using H.symm
theorem spec_SameDesk.yes {t ln : Bool} {z : Option Bool} {r : Bool} (H : (if t = true then some false else if ln = true then z else some false) = some r) (ht : t = false) (hl : ln = true) : z = some r := by
 subst ht hl
 simpa using H
def spec_SameDesk.d3 (x y : List (S66)) (i : Int) : Bool := ((!((((rd_T66 x i).f0).toList) == (((rd_T66 y i).f0).toList))) || ((!((((rd_T66 x i).f1).toList) == (((rd_T66 y i).f1).toList))) || (!(((rd_T66 x i).f2) == ((rd_T66 y i).f2)))))
def spec_SameDesk.d5 (x y : List (S73)) (i : Int) : Bool := ((!((((rd_T73 x i).f0).toList) == (((rd_T73 y i).f0).toList))) || ((!(((rd_T73 x i).f1) == ((rd_T73 y i).f1))) || ((!(((rd_T73 x i).f2) == ((rd_T73 y i).f2))) || ((!(((rd_T73 x i).f3) == ((rd_T73 y i).f3))) || (!(((rd_T73 x i).f4) == ((rd_T73 y i).f4)))))))
def spec_SameDesk.d9 (x y : List (S75)) (i : Int) : Bool := ((!((((rd_T75 x i).f0).toList) == (((rd_T75 y i).f0).toList))) || ((!(((rd_T75 x i).f1) == ((rd_T75 y i).f1))) || ((!(((rd_T75 x i).f2) == ((rd_T75 y i).f2))) || (!(((rd_T75 x i).f3) == ((rd_T75 y i).f3))))))
def spec_SameDesk.d10 (x y : List (S77)) (i : Int) : Bool := ((!((((rd_T77 x i).f0).toList) == (((rd_T77 y i).f0).toList))) || ((!(((rd_T77 x i).f1) == ((rd_T77 y i).f1))) || ((!(((rd_T77 x i).f2) == ((rd_T77 y i).f2))) || (!(((rd_T77 x i).f3) == ((rd_T77 y i).f3))))))
def spec_SameDesk.d11 (x y : List (S79)) (i : Int) : Bool := ((!((((rd_T79 x i).f0).toList) == (((rd_T79 y i).f0).toList))) || ((!(((rd_T79 x i).f1) == ((rd_T79 y i).f1))) || (!(((rd_T79 x i).f2) == ((rd_T79 y i).f2)))))
def spec_SameDesk.d12 (x y : List (S81)) (i : Int) : Bool := ((!((((rd_T81 x i).f0).toList) == (((rd_T81 y i).f0).toList))) || ((!(((rd_T81 x i).f1) == ((rd_T81 y i).f1))) || ((!(((rd_T81 x i).f2) == ((rd_T81 y i).f2))) || (!(((rd_T81 x i).f3) == ((rd_T81 y i).f3))))))
def spec_SameDesk.lens (l0_3 : List (S66)) (l0_4 : List (S71)) (l0_5 : List (S73)) (l0_9 : List (S75)) (l0_10 : List (S77)) (l0_11 : List (S79)) (l0_12 : List (S81)) (l1_3 : List (S66)) (l1_4 : List (S71)) (l1_5 : List (S73)) (l1_9 : List (S75)) (l1_10 : List (S77)) (l1_11 : List (S79)) (l1_12 : List (S81)) : Bool := l0_3.length == l1_3.length && l0_4.length == l1_4.length && l0_5.length == l1_5.length && l0_9.length == l1_9.length && l0_10.length == l1_10.length && l0_11.length == l1_11.length && l0_12.length == l1_12.length
def spec_SameDesk.small (l0_3 : List (S66)) (l0_4 : List (S71)) (l0_5 : List (S73)) (l0_9 : List (S75)) (l0_10 : List (S77)) (l0_11 : List (S79)) (l0_12 : List (S81)) : Bool := decide (l0_3.length ≤ 1073741824) && decide (l0_4.length ≤ 1073741824) && decide (l0_5.length ≤ 1073741824) && decide (l0_9.length ≤ 1073741824) && decide (l0_10.length ≤ 1073741824) && decide (l0_11.length ≤ 1073741824) && decide (l0_12.length ≤ 1073741824)
def spec_SameDesk.f (k : Nat) (l0_0 : List Int) (l0_1 : List (S118)) (l0_2 : List Int) (l0_3 : List (S66)) (l0_4 : List (S71)) (l0_5 : List (S73)) (a0_6 : Int) (a0_7 : Int) (a0_8 : Int) (l0_9 : List (S75)) (l0_10 : List (S77)) (l0_11 : List (S79)) (l0_12 : List (S81)) (l1_0 : List Int) (l1_1 : List (S118)) (l1_2 : List Int) (l1_3 : List (S66)) (l1_4 : List (S71)) (l1_5 : List (S73)) (a1_6 : Int) (a1_7 : Int) (a1_8 : Int) (l1_9 : List (S75)) (l1_10 : List (S77)) (l1_11 : List (S79)) (l1_12 : List (S81)) : Option Bool := (spec_SameNetwork.f k l0_0 l0_1 l1_0 l1_1).bind fun b1 => if b1 = true then ((spec_l00Same.f k l0_2 l1_2).bind fun b2 => if b2 = true then (if (!(a0_6 == a1_6) || (!(a0_7 == a1_7) || (!(a0_8 == a1_8)))) = true then some false else if spec_SameDesk.lens l0_3 l0_4 l0_5 l0_9 l0_10 l0_11 l0_12 l1_3 l1_4 l1_5 l1_9 l1_10 l1_11 l1_12 = true then (if spec_SameDesk.small l0_3 l0_4 l0_5 l0_9 l0_10 l0_11 l0_12 = true then ((spec_SameDesk.allO (fun i => spec_l08Same.f k ((rd_T71 l0_4 i).f0) ((rd_T71 l0_4 i).f1) ((rd_T71 l1_4 i).f0) ((rd_T71 l1_4 i).f1)) l0_4.length 0).bind fun b4 => some ((spec_SameDesk.allB (spec_SameDesk.d3 l0_3 l1_3) l0_3.length 0 && (b4 && (spec_SameDesk.allB (spec_SameDesk.d5 l0_5 l1_5) l0_5.length 0 && (spec_SameDesk.allB (spec_SameDesk.d9 l0_9 l1_9) l0_9.length 0 && (spec_SameDesk.allB (spec_SameDesk.d10 l0_10 l1_10) l0_10.length 0 && (spec_SameDesk.allB (spec_SameDesk.d11 l0_11 l1_11) l0_11.length 0 && spec_SameDesk.allB (spec_SameDesk.d12 l0_12 l1_12) l0_12.length 0)))))))) else none) else some false) else some false) else some false
set_option maxHeartbeats 8000000 in
set_option maxRecDepth 100000 in
theorem spec_SameDesk.calls (k : Nat) (A0_0 : Option Addr) (c0_0 : Nat) (l0_0 : List Int) (A0_1 : Option Addr) (c0_1 : Nat) (l0_1 : List (S118)) (A0_2 : Option Addr) (c0_2 : Nat) (l0_2 : List Int) (A0_3 : Option Addr) (c0_3 : Nat) (l0_3 : List (S66)) (A0_4 : Option Addr) (c0_4 : Nat) (l0_4 : List (S71)) (A0_5 : Option Addr) (c0_5 : Nat) (l0_5 : List (S73)) (a0_6 : Int) (a0_7 : Int) (a0_8 : Int) (A0_9 : Option Addr) (c0_9 : Nat) (l0_9 : List (S75)) (A0_10 : Option Addr) (c0_10 : Nat) (l0_10 : List (S77)) (A0_11 : Option Addr) (c0_11 : Nat) (l0_11 : List (S79)) (A0_12 : Option Addr) (c0_12 : Nat) (l0_12 : List (S81)) (A1_0 : Option Addr) (c1_0 : Nat) (l1_0 : List Int) (A1_1 : Option Addr) (c1_1 : Nat) (l1_1 : List (S118)) (A1_2 : Option Addr) (c1_2 : Nat) (l1_2 : List Int) (A1_3 : Option Addr) (c1_3 : Nat) (l1_3 : List (S66)) (A1_4 : Option Addr) (c1_4 : Nat) (l1_4 : List (S71)) (A1_5 : Option Addr) (c1_5 : Nat) (l1_5 : List (S73)) (a1_6 : Int) (a1_7 : Int) (a1_8 : Int) (A1_9 : Option Addr) (c1_9 : Nat) (l1_9 : List (S75)) (A1_10 : Option Addr) (c1_10 : Nat) (l1_10 : List (S77)) (A1_11 : Option Addr) (c1_11 : Nat) (l1_11 : List (S79)) (A1_12 : Option Addr) (c1_12 : Nat) (l1_12 : List (S81)) (r : Bool) (w : World) (hr0_0 : Kd.C (Kd.int .i64) w A0_0 l0_0.length l0_0) (hc0_0 : l0_0.length ≤ c0_0) (hr0_1 : Kd.C k118 w A0_1 l0_1.length l0_1) (hc0_1 : l0_1.length ≤ c0_1) (hr0_2 : Kd.C (Kd.int .i64) w A0_2 l0_2.length l0_2) (hc0_2 : l0_2.length ≤ c0_2) (hr0_3 : Kd.C k66 w A0_3 l0_3.length l0_3) (hc0_3 : l0_3.length ≤ c0_3) (hr0_4 : Kd.C k71 w A0_4 l0_4.length l0_4) (hc0_4 : l0_4.length ≤ c0_4) (hr0_5 : Kd.C k73 w A0_5 l0_5.length l0_5) (hc0_5 : l0_5.length ≤ c0_5) (hr0_9 : Kd.C k75 w A0_9 l0_9.length l0_9) (hc0_9 : l0_9.length ≤ c0_9) (hr0_10 : Kd.C k77 w A0_10 l0_10.length l0_10) (hc0_10 : l0_10.length ≤ c0_10) (hr0_11 : Kd.C k79 w A0_11 l0_11.length l0_11) (hc0_11 : l0_11.length ≤ c0_11) (hr0_12 : Kd.C k81 w A0_12 l0_12.length l0_12) (hc0_12 : l0_12.length ≤ c0_12) (hr1_0 : Kd.C (Kd.int .i64) w A1_0 l1_0.length l1_0) (hc1_0 : l1_0.length ≤ c1_0) (hr1_1 : Kd.C k118 w A1_1 l1_1.length l1_1) (hc1_1 : l1_1.length ≤ c1_1) (hr1_2 : Kd.C (Kd.int .i64) w A1_2 l1_2.length l1_2) (hc1_2 : l1_2.length ≤ c1_2) (hr1_3 : Kd.C k66 w A1_3 l1_3.length l1_3) (hc1_3 : l1_3.length ≤ c1_3) (hr1_4 : Kd.C k71 w A1_4 l1_4.length l1_4) (hc1_4 : l1_4.length ≤ c1_4) (hr1_5 : Kd.C k73 w A1_5 l1_5.length l1_5) (hc1_5 : l1_5.length ≤ c1_5) (hr1_9 : Kd.C k75 w A1_9 l1_9.length l1_9) (hc1_9 : l1_9.length ≤ c1_9) (hr1_10 : Kd.C k77 w A1_10 l1_10.length l1_10) (hc1_10 : l1_10.length ≤ c1_10) (hr1_11 : Kd.C k79 w A1_11 l1_11.length l1_11) (hc1_11 : l1_11.length ≤ c1_11) (hr1_12 : Kd.C k81 w A1_12 l1_12.length l1_12) (hc1_12 : l1_12.length ≤ c1_12) (h : spec_SameDesk.f k l0_0 l0_1 l0_2 l0_3 l0_4 l0_5 a0_6 a0_7 a0_8 l0_9 l0_10 l0_11 l0_12 l1_0 l1_1 l1_2 l1_3 l1_4 l1_5 a1_6 a1_7 a1_8 l1_9 l1_10 l1_11 l1_12 = some r) :
  Calls Try.prog 5 #[.agg #[.slice A0_0 l0_0.length c0_0, .slice A0_1 l0_1.length c0_1, .slice A0_2 l0_2.length c0_2, .slice A0_3 l0_3.length c0_3, .slice A0_4 l0_4.length c0_4, .slice A0_5 l0_5.length c0_5, .int .i64 a0_6, .int .i64 a0_7, .int .i64 a0_8, .slice A0_9 l0_9.length c0_9, .slice A0_10 l0_10.length c0_10, .slice A0_11 l0_11.length c0_11, .slice A0_12 l0_12.length c0_12], .agg #[.slice A1_0 l1_0.length c1_0, .slice A1_1 l1_1.length c1_1, .slice A1_2 l1_2.length c1_2, .slice A1_3 l1_3.length c1_3, .slice A1_4 l1_4.length c1_4, .slice A1_5 l1_5.length c1_5, .int .i64 a1_6, .int .i64 a1_7, .int .i64 a1_8, .slice A1_9 l1_9.length c1_9, .slice A1_10 l1_10.length c1_10, .slice A1_11 l1_11.length c1_11, .slice A1_12 l1_12.length c1_12]] w fun e w' => e = .returned (.bool r) ∧ Below w.heap.size w w' := by
 have hutimplDesk := Try.underlying51
 have hutimplNetwork := Try.underlying41
 have hutimplTank := Try.underlying45
 have hutimplValve := Try.underlying66
 have hutimplSubstation := Try.underlying73
 have hutimplFuel := Try.underlying75
 have hutimplRepair := Try.underlying77
 have hutimplTenant := Try.underlying79
 have hutimplDuty := Try.underlying81
 unfold spec_SameDesk.f at h
 replace h := Option.bind_eq_some_iff.mp h
 obtain ⟨b1, h1, h⟩ := h
 have HR0_0 := Aside0.mk hr0_0
 have HC0_0 := Aside0.mk hc0_0
 have HR0_1 := Aside0.mk hr0_1
 have HC0_1 := Aside0.mk hc0_1
 have HR0_2 := Aside0.mk hr0_2
 have HC0_2 := Aside0.mk hc0_2
 have HR0_3 := Aside0.mk hr0_3
 have HC0_3 := Aside0.mk hc0_3
 have HR0_4 := Aside0.mk hr0_4
 have HC0_4 := Aside0.mk hc0_4
 have HR0_5 := Aside0.mk hr0_5
 have HC0_5 := Aside0.mk hc0_5
 have HR0_9 := Aside0.mk hr0_9
 have HC0_9 := Aside0.mk hc0_9
 have HR0_10 := Aside0.mk hr0_10
 have HC0_10 := Aside0.mk hc0_10
 have HR0_11 := Aside0.mk hr0_11
 have HC0_11 := Aside0.mk hc0_11
 have HR0_12 := Aside0.mk hr0_12
 have HC0_12 := Aside0.mk hc0_12
 clear hr0_0 hc0_0 hr0_1 hc0_1 hr0_2 hc0_2 hr0_3 hc0_3 hr0_4 hc0_4 hr0_5 hc0_5 hr0_9 hc0_9 hr0_10 hc0_10 hr0_11 hc0_11 hr0_12 hc0_12
 have HR1_0 := Aside0.mk hr1_0
 have HC1_0 := Aside0.mk hc1_0
 have HR1_1 := Aside0.mk hr1_1
 have HC1_1 := Aside0.mk hc1_1
 have HR1_2 := Aside0.mk hr1_2
 have HC1_2 := Aside0.mk hc1_2
 have HR1_3 := Aside0.mk hr1_3
 have HC1_3 := Aside0.mk hc1_3
 have HR1_4 := Aside0.mk hr1_4
 have HC1_4 := Aside0.mk hc1_4
 have HR1_5 := Aside0.mk hr1_5
 have HC1_5 := Aside0.mk hc1_5
 have HR1_9 := Aside0.mk hr1_9
 have HC1_9 := Aside0.mk hc1_9
 have HR1_10 := Aside0.mk hr1_10
 have HC1_10 := Aside0.mk hc1_10
 have HR1_11 := Aside0.mk hr1_11
 have HC1_11 := Aside0.mk hc1_11
 have HR1_12 := Aside0.mk hr1_12
 have HC1_12 := Aside0.mk hc1_12
 clear hr1_0 hc1_0 hr1_1 hc1_1 hr1_2 hc1_2 hr1_3 hc1_3 hr1_4 hc1_4 hr1_5 hc1_5 hr1_9 hc1_9 hr1_10 hc1_10 hr1_11 hc1_11 hr1_12 hc1_12
 have H1 := Aside0.mk h1
 have H := Aside0.mk h
 clear h1 h
 go_enter Try.func5, Try.ntmps5
 go_upto_region 1 with (first | ((with_reducible refine gate_dst (N := 2) rfl ?_); refine boxZ 2 #[.slice A0_0 l0_0.length c0_0, .slice A0_1 l0_1.length c0_1, .slice A0_2 l0_2.length c0_2, .slice A0_3 l0_3.length c0_3, .slice A0_4 l0_4.length c0_4, .slice A0_5 l0_5.length c0_5, .int .i64 a0_6, .int .i64 a0_7, .int .i64 a0_8, .slice A0_9 l0_9.length c0_9, .slice A0_10 l0_10.length c0_10, .slice A0_11 l0_11.length c0_11, .slice A0_12 l0_12.length c0_12] 51 rfl rfl ?_; intro g0 hg0 w1 hk0 hb0; clear hg0) | ((with_reducible refine gate_dst (N := 3) rfl ?_); refine boxZ 3 #[.slice A1_0 l1_0.length c1_0, .slice A1_1 l1_1.length c1_1, .slice A1_2 l1_2.length c1_2, .slice A1_3 l1_3.length c1_3, .slice A1_4 l1_4.length c1_4, .slice A1_5 l1_5.length c1_5, .int .i64 a1_6, .int .i64 a1_7, .int .i64 a1_8, .slice A1_9 l1_9.length c1_9, .slice A1_10 l1_10.length c1_10, .slice A1_11 l1_11.length c1_11, .slice A1_12 l1_12.length c1_12] 51 rfl rfl ?_; intro g1 hg1 w2 hk1 hb1; clear hg1))
 have HB := Aside0.mk (below_step hb0 hb1)
 have BK0 := Aside0.mk (blk_below hk0 hb1)
 have BK1 := Aside0.mk hk1
 clear hk0 hk1 hb0 hb1
 simp only [List.append_eq, List.cons_append, List.nil_append]
 go_cut [0, 1, 95] from 12 (fun v0 v1 v95 wc => ∃ x : Bool, v95 = .bool x ∧ Aside0 (Below w2.heap.size w2 wc) ∧ Aside0 (x = true → r = false) ∧ Aside0 (x = false → spec_SameDesk.lens l0_3 l0_4 l0_5 l0_9 l0_10 l0_11 l0_12 l1_3 l1_4 l1_5 l1_9 l1_10 l1_11 l1_12 = true ∧ (if spec_SameDesk.small l0_3 l0_4 l0_5 l0_9 l0_10 l0_11 l0_12 = true then (spec_SameDesk.allO (fun i => spec_l08Same.f k ((rd_T71 l0_4 i).f0) ((rd_T71 l0_4 i).f1) ((rd_T71 l1_4 i).f0) ((rd_T71 l1_4 i).f1)) l0_4.length 0).bind (fun b4 => some ((spec_SameDesk.allB (spec_SameDesk.d3 l0_3 l1_3) l0_3.length 0 && (b4 && (spec_SameDesk.allB (spec_SameDesk.d5 l0_5 l1_5) l0_5.length 0 && (spec_SameDesk.allB (spec_SameDesk.d9 l0_9 l1_9) l0_9.length 0 && (spec_SameDesk.allB (spec_SameDesk.d10 l0_10 l1_10) l0_10.length 0 && (spec_SameDesk.allB (spec_SameDesk.d11 l0_11 l1_11) l0_11.length 0 && spec_SameDesk.allB (spec_SameDesk.d12 l0_12 l1_12) l0_12.length 0)))))))) else none) = some r))
 case first =>
  cases b1 with
  | false =>
   have hr : r = false := by have := H.out; simpa using this.symm
   clear H HR0_2 HC0_2 HR0_3 HC0_3 HR0_4 HC0_4 HR0_5 HC0_5 HR0_9 HC0_9 HR0_10 HC0_10 HR0_11 HC0_11 HR0_12 HC0_12 HR1_2 HC1_2 HR1_3 HC1_3 HR1_4 HC1_4 HR1_5 HC1_5 HR1_9 HC1_9 HR1_10 HC1_10 HR1_11 HC1_11 HR1_12 HC1_12
   have z0_0 : w2.cell? ⟨g0, 0, none⟩ = some (.slice A0_0 l0_0.length c0_0) := (blk_cell BK0.out 0).trans rfl
   have z0_1 : w2.cell? ⟨g0, 1, none⟩ = some (.slice A0_1 l0_1.length c0_1) := (blk_cell BK0.out 1).trans rfl
   have z1_0 : w2.cell? ⟨g1, 0, none⟩ = some (.slice A1_0 l1_0.length c1_0) := (blk_cell BK1.out 0).trans rfl
   have z1_1 : w2.cell? ⟨g1, 1, none⟩ = some (.slice A1_1 l1_1.length c1_1) := (blk_cell BK1.out 1).trans rfl
   go_wp2_with (first | (go_at_call 18; go_loud ((with_reducible refine (spec_SameNetwork.calls k A0_0 c0_0 l0_0 A0_1 c0_1 l0_1 A1_0 c1_0 l1_0 A1_1 c1_1 l1_1 false _ (Kd.C_below HR0_0.out HB.out) HC0_0.out (Kd.C_below HR0_1.out HB.out) HC0_1.out (Kd.C_below HR1_0.out HB.out) HC1_0.out (Kd.C_below HR1_1.out HB.out) HC1_1.out H1.out).mono ?_); rintro e w3 ⟨rfl, hb3⟩; clear z0_0 z0_1 z1_0 z1_1; have HB2 := Aside0.mk hb3; clear hb3; clear HR0_0 HC0_0 HR0_1 HC0_1 HR1_0 HC1_0 HR1_1 HC1_1)))
   go_meet
   case rel => exact ⟨true, rfl, HB2, ⟨fun _ => hr⟩, ⟨fun e => absurd e (by decide)⟩⟩
  | true =>
   have z0_0 : w2.cell? ⟨g0, 0, none⟩ = some (.slice A0_0 l0_0.length c0_0) := (blk_cell BK0.out 0).trans rfl
   have z0_1 : w2.cell? ⟨g0, 1, none⟩ = some (.slice A0_1 l0_1.length c0_1) := (blk_cell BK0.out 1).trans rfl
   have z1_0 : w2.cell? ⟨g1, 0, none⟩ = some (.slice A1_0 l1_0.length c1_0) := (blk_cell BK1.out 0).trans rfl
   have z1_1 : w2.cell? ⟨g1, 1, none⟩ = some (.slice A1_1 l1_1.length c1_1) := (blk_cell BK1.out 1).trans rfl
   have h := H.out
   clear H
   rw [if_pos rfl] at h
   replace h := Option.bind_eq_some_iff.mp h
   obtain ⟨b2, h2, h⟩ := h
   have H := Aside0.mk h
   have H2 := Aside0.mk h2
   clear h h2
   cases b2 with
   | false =>
    have hr : r = false := by have := H.out; simpa using this.symm
    clear H
    go_wp2_with (first | (go_at_call 18; go_loud ((with_reducible refine (spec_SameNetwork.calls k A0_0 c0_0 l0_0 A0_1 c0_1 l0_1 A1_0 c1_0 l1_0 A1_1 c1_1 l1_1 true _ (Kd.C_below HR0_0.out HB.out) HC0_0.out (Kd.C_below HR0_1.out HB.out) HC0_1.out (Kd.C_below HR1_0.out HB.out) HC1_0.out (Kd.C_below HR1_1.out HB.out) HC1_1.out H1.out).mono ?_); rintro e w3 ⟨rfl, hb3⟩; clear z0_0 z0_1 z1_0 z1_1; have HB2 := Aside0.mk hb3; clear hb3; clear HR0_0 HC0_0 HR0_1 HC0_1 HR1_0 HC1_0 HR1_1 HC1_1; have z0_2 : w3.cell? ⟨g0, 2, none⟩ = some (.slice A0_2 l0_2.length c0_2) := (blk_cell (blk_below BK0.out HB2.out) 2).trans rfl; have z1_2 : w3.cell? ⟨g1, 2, none⟩ = some (.slice A1_2 l1_2.length c1_2) := (blk_cell (blk_below BK1.out HB2.out) 2).trans rfl)) | (go_at_call 19; go_loud ((with_reducible refine (spec_l00Same.calls k A0_2 c0_2 l0_2 A1_2 c1_2 l1_2 false _ (Kd.C_below (Kd.C_below HR0_2.out HB.out) HB2.out) HC0_2.out (Kd.C_below (Kd.C_below HR1_2.out HB.out) HB2.out) HC1_2.out H2.out).mono ?_); rintro e w4 ⟨rfl, ⟨nd, rfl⟩⟩)))
    go_meet
    case rel => exact ⟨true, rfl, ⟨pw_below_drewN HB2.out _⟩, ⟨fun _ => hr⟩, ⟨fun e => absurd e (by decide)⟩⟩
   | true =>
    go_wp2_with (first | (go_at_call 18; go_loud ((with_reducible refine (spec_SameNetwork.calls k A0_0 c0_0 l0_0 A0_1 c0_1 l0_1 A1_0 c1_0 l1_0 A1_1 c1_1 l1_1 true _ (Kd.C_below HR0_0.out HB.out) HC0_0.out (Kd.C_below HR0_1.out HB.out) HC0_1.out (Kd.C_below HR1_0.out HB.out) HC1_0.out (Kd.C_below HR1_1.out HB.out) HC1_1.out H1.out).mono ?_); rintro e w3 ⟨rfl, hb3⟩; clear z0_0 z0_1 z1_0 z1_1; have HB2 := Aside0.mk hb3; clear hb3; clear HR0_0 HC0_0 HR0_1 HC0_1 HR1_0 HC1_0 HR1_1 HC1_1; have z0_2 : w3.cell? ⟨g0, 2, none⟩ = some (.slice A0_2 l0_2.length c0_2) := (blk_cell (blk_below BK0.out HB2.out) 2).trans rfl; have z0_3 : w3.cell? ⟨g0, 3, none⟩ = some (.slice A0_3 l0_3.length c0_3) := (blk_cell (blk_below BK0.out HB2.out) 3).trans rfl; have z0_4 : w3.cell? ⟨g0, 4, none⟩ = some (.slice A0_4 l0_4.length c0_4) := (blk_cell (blk_below BK0.out HB2.out) 4).trans rfl; have z0_5 : w3.cell? ⟨g0, 5, none⟩ = some (.slice A0_5 l0_5.length c0_5) := (blk_cell (blk_below BK0.out HB2.out) 5).trans rfl; have z0_6 : w3.cell? ⟨g0, 6, none⟩ = some (.int .i64 a0_6) := (blk_cell (blk_below BK0.out HB2.out) 6).trans rfl; have z0_7 : w3.cell? ⟨g0, 7, none⟩ = some (.int .i64 a0_7) := (blk_cell (blk_below BK0.out HB2.out) 7).trans rfl; have z0_8 : w3.cell? ⟨g0, 8, none⟩ = some (.int .i64 a0_8) := (blk_cell (blk_below BK0.out HB2.out) 8).trans rfl; have z0_9 : w3.cell? ⟨g0, 9, none⟩ = some (.slice A0_9 l0_9.length c0_9) := (blk_cell (blk_below BK0.out HB2.out) 9).trans rfl; have z0_10 : w3.cell? ⟨g0, 10, none⟩ = some (.slice A0_10 l0_10.length c0_10) := (blk_cell (blk_below BK0.out HB2.out) 10).trans rfl; have z0_11 : w3.cell? ⟨g0, 11, none⟩ = some (.slice A0_11 l0_11.length c0_11) := (blk_cell (blk_below BK0.out HB2.out) 11).trans rfl; have z0_12 : w3.cell? ⟨g0, 12, none⟩ = some (.slice A0_12 l0_12.length c0_12) := (blk_cell (blk_below BK0.out HB2.out) 12).trans rfl; have z1_2 : w3.cell? ⟨g1, 2, none⟩ = some (.slice A1_2 l1_2.length c1_2) := (blk_cell (blk_below BK1.out HB2.out) 2).trans rfl; have z1_3 : w3.cell? ⟨g1, 3, none⟩ = some (.slice A1_3 l1_3.length c1_3) := (blk_cell (blk_below BK1.out HB2.out) 3).trans rfl; have z1_4 : w3.cell? ⟨g1, 4, none⟩ = some (.slice A1_4 l1_4.length c1_4) := (blk_cell (blk_below BK1.out HB2.out) 4).trans rfl; have z1_5 : w3.cell? ⟨g1, 5, none⟩ = some (.slice A1_5 l1_5.length c1_5) := (blk_cell (blk_below BK1.out HB2.out) 5).trans rfl; have z1_6 : w3.cell? ⟨g1, 6, none⟩ = some (.int .i64 a1_6) := (blk_cell (blk_below BK1.out HB2.out) 6).trans rfl; have z1_7 : w3.cell? ⟨g1, 7, none⟩ = some (.int .i64 a1_7) := (blk_cell (blk_below BK1.out HB2.out) 7).trans rfl; have z1_8 : w3.cell? ⟨g1, 8, none⟩ = some (.int .i64 a1_8) := (blk_cell (blk_below BK1.out HB2.out) 8).trans rfl; have z1_9 : w3.cell? ⟨g1, 9, none⟩ = some (.slice A1_9 l1_9.length c1_9) := (blk_cell (blk_below BK1.out HB2.out) 9).trans rfl; have z1_10 : w3.cell? ⟨g1, 10, none⟩ = some (.slice A1_10 l1_10.length c1_10) := (blk_cell (blk_below BK1.out HB2.out) 10).trans rfl; have z1_11 : w3.cell? ⟨g1, 11, none⟩ = some (.slice A1_11 l1_11.length c1_11) := (blk_cell (blk_below BK1.out HB2.out) 11).trans rfl; have z1_12 : w3.cell? ⟨g1, 12, none⟩ = some (.slice A1_12 l1_12.length c1_12) := (blk_cell (blk_below BK1.out HB2.out) 12).trans rfl)) | (go_at_call 19; go_loud ((with_reducible refine (spec_l00Same.calls k A0_2 c0_2 l0_2 A1_2 c1_2 l1_2 true _ (Kd.C_below (Kd.C_below HR0_2.out HB.out) HB2.out) HC0_2.out (Kd.C_below (Kd.C_below HR1_2.out HB.out) HB2.out) HC1_2.out H2.out).mono ?_); rintro e w4 ⟨rfl, ⟨nd, rfl⟩⟩)))
    all_goals
     go_meet
     case rel =>
      refine ⟨_, rfl, ⟨pw_below_drewN HB2.out _⟩, ⟨fun hx => ?_⟩, ⟨fun hx => ?_⟩⟩
      all_goals first
       | exact absurd hx (by decide)
       | (refine spec_SameDesk.no H.out ?_; first | (left; simp only [Bool.or_eq_true, Bool.not_eq_true', beq_eq_false_iff_ne, ne_eq]; omega) | (right; rw [← Bool.not_eq_true]; intro hc; simp only [spec_SameDesk.lens, Bool.and_eq_true, beq_iff_eq] at hc; (try simp at hx); omega))
       | (refine ⟨?_, spec_SameDesk.yes H.out ?_ ?_⟩ <;> (try simp at hx) <;> (try simp only [spec_SameDesk.lens, Bool.and_eq_true, beq_iff_eq, Bool.or_eq_false_iff, Bool.not_eq_false', ne_eq]) <;> omega)
 case rest =>
  obtain ⟨x, rfl, HBq, HF, HT⟩ := hcut
  clear H H1
  cases x with
  | true =>
   obtain rfl := HF.out rfl
   go_wp2
   go_ret
   exact ⟨rfl, below_step HB.out HBq.out⟩
  | false =>
   obtain ⟨hl, hz⟩ := HT.out rfl
   clear HF HT
   have hs : spec_SameDesk.small l0_3 l0_4 l0_5 l0_9 l0_10 l0_11 l0_12 = true := by
    cases hs : spec_SameDesk.small l0_3 l0_4 l0_5 l0_9 l0_10 l0_11 l0_12 with
    | true => rfl
    | false => rw [hs] at hz; exact absurd hz (by simp)
   rw [if_pos hs] at hz
   replace hz := Option.bind_eq_some_iff.mp hz
   obtain ⟨b4, h4, hz⟩ := hz
   have hr := (Option.some.inj hz).symm
   clear hz
   simp only [spec_SameDesk.lens, Bool.and_eq_true, beq_iff_eq] at hl
   simp only [spec_SameDesk.small, Bool.and_eq_true, decide_eq_true_eq] at hs
   obtain ⟨⟨⟨⟨⟨⟨e3, e4⟩, e5⟩, e9⟩, e10⟩, e11⟩, e12⟩ := hl
   obtain ⟨⟨⟨⟨⟨⟨s3, s4⟩, s5⟩, s9⟩, s10⟩, s11⟩, s12⟩ := hs
   obtain ⟨B3, hB3⟩ : ∃ B, spec_SameDesk.allB (spec_SameDesk.d3 l0_3 l1_3) l0_3.length 0 = B := ⟨_, rfl⟩
   obtain ⟨B5, hB5⟩ : ∃ B, spec_SameDesk.allB (spec_SameDesk.d5 l0_5 l1_5) l0_5.length 0 = B := ⟨_, rfl⟩
   obtain ⟨B9, hB9⟩ : ∃ B, spec_SameDesk.allB (spec_SameDesk.d9 l0_9 l1_9) l0_9.length 0 = B := ⟨_, rfl⟩
   obtain ⟨B10, hB10⟩ : ∃ B, spec_SameDesk.allB (spec_SameDesk.d10 l0_10 l1_10) l0_10.length 0 = B := ⟨_, rfl⟩
   obtain ⟨B11, hB11⟩ : ∃ B, spec_SameDesk.allB (spec_SameDesk.d11 l0_11 l1_11) l0_11.length 0 = B := ⟨_, rfl⟩
   obtain ⟨B12, hB12⟩ : ∃ B, spec_SameDesk.allB (spec_SameDesk.d12 l0_12 l1_12) l0_12.length 0 = B := ⟨_, rfl⟩
   rw [hB3, hB5, hB9, hB10, hB11, hB12] at hr
   have E3 := Aside0.mk e3
   have S3 := Aside0.mk s3
   have E4 := Aside0.mk e4
   have S4 := Aside0.mk s4
   have E5 := Aside0.mk e5
   have S5 := Aside0.mk s5
   have E9 := Aside0.mk e9
   have S9 := Aside0.mk s9
   have E10 := Aside0.mk e10
   have S10 := Aside0.mk s10
   have E11 := Aside0.mk e11
   have S11 := Aside0.mk s11
   have E12 := Aside0.mk e12
   have S12 := Aside0.mk s12
   clear e3 s3 e4 s4 e5 s5 e9 s9 e10 s10 e11 s11 e12 s12
   have HJ3 := Aside0.mk hB3
   have HJ5 := Aside0.mk hB5
   have HJ9 := Aside0.mk hB9
   have HJ10 := Aside0.mk hB10
   have HJ11 := Aside0.mk hB11
   have HJ12 := Aside0.mk hB12
   clear hB3 hB5 hB9 hB10 hB11 hB12
   have HJ4 := Aside0.mk h4
   have HR := Aside0.mk hr
   clear h4 hr
   go_wp2
   go_loopg [5] l0_3.length (fun m v5 wr => ∃ q : Nat, q + m = l0_3.length ∧ v5 = .int .i64 (q : Int) ∧ Aside0 (spec_SameDesk.allB (spec_SameDesk.d3 l0_3 l1_3) m q = B3) ∧ Aside0 (Below w2.heap.size w2 wr))
   case atStart => exact ⟨0, by omega, rfl, HJ3, HBq⟩
   case round =>
    clear HJ3 HBq
    obtain ⟨q, hq, rfl, HJ3, HBq⟩ := hrel
    obtain ⟨x, hqx⟩ : ∃ x : Int, x = (q : Int) := ⟨_, rfl⟩
    rw [← hqx]
    have z0 : wr.cell? ⟨g0, 3, none⟩ = some (.slice A0_3 l0_3.length c0_3) := (blk_cell (blk_below BK0.out HBq.out) 3).trans rfl
    have z1 : wr.cell? ⟨g1, 3, none⟩ = some (.slice A1_3 l1_3.length c1_3) := (blk_cell (blk_below BK1.out HBq.out) 3).trans rfl
    cases gk with
    | zero =>
     have hc : decide (x < (l0_3.length : Int)) = false := decide_eq_false (by omega)
     have hb : B3 = true := by have := HJ3.out; simpa [spec_SameDesk.allB] using this.symm
     have HT3 := Aside0.mk hb
     clear hb hqx
     go_wp2
     go_loopg [6] l0_4.length (fun m v6 wr => ∃ q : Nat, q + m = l0_4.length ∧ v6 = .int .i64 (q : Int) ∧ Aside0 (spec_SameDesk.allO (fun i => spec_l08Same.f k ((rd_T71 l0_4 i).f0) ((rd_T71 l0_4 i).f1) ((rd_T71 l1_4 i).f0) ((rd_T71 l1_4 i).f1)) m q = some b4) ∧ Aside0 (Below w2.heap.size w2 wr))
     case atStart => exact ⟨0, by omega, rfl, HJ4, HBq⟩
     case round =>
      clear HJ4 HBq
      obtain ⟨q, hq, rfl, HJ4, HBq⟩ := hrel
      obtain ⟨x, hqx⟩ : ∃ x : Int, x = (q : Int) := ⟨_, rfl⟩
      rw [← hqx]
      have z0 : wr.cell? ⟨g0, 4, none⟩ = some (.slice A0_4 l0_4.length c0_4) := (blk_cell (blk_below BK0.out HBq.out) 4).trans rfl
      have z1 : wr.cell? ⟨g1, 4, none⟩ = some (.slice A1_4 l1_4.length c1_4) := (blk_cell (blk_below BK1.out HBq.out) 4).trans rfl
      cases gk with
      | zero =>
       have hc : decide (x < (l0_4.length : Int)) = false := decide_eq_false (by omega)
       have hb : b4 = true := by have := HJ4.out; simpa [spec_SameDesk.allO] using this.symm
       have HT4 := Aside0.mk hb
       clear hb hqx
       go_wp2
       go_loopg [7] l0_5.length (fun m v7 wr => ∃ q : Nat, q + m = l0_5.length ∧ v7 = .int .i64 (q : Int) ∧ Aside0 (spec_SameDesk.allB (spec_SameDesk.d5 l0_5 l1_5) m q = B5) ∧ Aside0 (Below w2.heap.size w2 wr))
       case atStart => exact ⟨0, by omega, rfl, HJ5, HBq⟩
       case round =>
        clear HJ5 HBq
        obtain ⟨q, hq, rfl, HJ5, HBq⟩ := hrel
        obtain ⟨x, hqx⟩ : ∃ x : Int, x = (q : Int) := ⟨_, rfl⟩
        rw [← hqx]
        have z0 : wr.cell? ⟨g0, 5, none⟩ = some (.slice A0_5 l0_5.length c0_5) := (blk_cell (blk_below BK0.out HBq.out) 5).trans rfl
        have z1 : wr.cell? ⟨g1, 5, none⟩ = some (.slice A1_5 l1_5.length c1_5) := (blk_cell (blk_below BK1.out HBq.out) 5).trans rfl
        cases gk with
        | zero =>
         have hc : decide (x < (l0_5.length : Int)) = false := decide_eq_false (by omega)
         have hb : B5 = true := by have := HJ5.out; simpa [spec_SameDesk.allB] using this.symm
         have HT5 := Aside0.mk hb
         clear hb hqx
         go_wp2
         go_loopg [8] l0_9.length (fun m v8 wr => ∃ q : Nat, q + m = l0_9.length ∧ v8 = .int .i64 (q : Int) ∧ Aside0 (spec_SameDesk.allB (spec_SameDesk.d9 l0_9 l1_9) m q = B9) ∧ Aside0 (Below w2.heap.size w2 wr))
         case atStart => exact ⟨0, by omega, rfl, HJ9, HBq⟩
         case round =>
          clear HJ9 HBq
          obtain ⟨q, hq, rfl, HJ9, HBq⟩ := hrel
          obtain ⟨x, hqx⟩ : ∃ x : Int, x = (q : Int) := ⟨_, rfl⟩
          rw [← hqx]
          have z0 : wr.cell? ⟨g0, 9, none⟩ = some (.slice A0_9 l0_9.length c0_9) := (blk_cell (blk_below BK0.out HBq.out) 9).trans rfl
          have z1 : wr.cell? ⟨g1, 9, none⟩ = some (.slice A1_9 l1_9.length c1_9) := (blk_cell (blk_below BK1.out HBq.out) 9).trans rfl
          cases gk with
          | zero =>
           have hc : decide (x < (l0_9.length : Int)) = false := decide_eq_false (by omega)
           have hb : B9 = true := by have := HJ9.out; simpa [spec_SameDesk.allB] using this.symm
           have HT9 := Aside0.mk hb
           clear hb hqx
           go_wp2
           go_loopg [9] l0_10.length (fun m v9 wr => ∃ q : Nat, q + m = l0_10.length ∧ v9 = .int .i64 (q : Int) ∧ Aside0 (spec_SameDesk.allB (spec_SameDesk.d10 l0_10 l1_10) m q = B10) ∧ Aside0 (Below w2.heap.size w2 wr))
           case atStart => exact ⟨0, by omega, rfl, HJ10, HBq⟩
           case round =>
            clear HJ10 HBq
            obtain ⟨q, hq, rfl, HJ10, HBq⟩ := hrel
            obtain ⟨x, hqx⟩ : ∃ x : Int, x = (q : Int) := ⟨_, rfl⟩
            rw [← hqx]
            have z0 : wr.cell? ⟨g0, 10, none⟩ = some (.slice A0_10 l0_10.length c0_10) := (blk_cell (blk_below BK0.out HBq.out) 10).trans rfl
            have z1 : wr.cell? ⟨g1, 10, none⟩ = some (.slice A1_10 l1_10.length c1_10) := (blk_cell (blk_below BK1.out HBq.out) 10).trans rfl
            cases gk with
            | zero =>
             have hc : decide (x < (l0_10.length : Int)) = false := decide_eq_false (by omega)
             have hb : B10 = true := by have := HJ10.out; simpa [spec_SameDesk.allB] using this.symm
             have HT10 := Aside0.mk hb
             clear hb hqx
             go_wp2
             go_loopg [10] l0_11.length (fun m v10 wr => ∃ q : Nat, q + m = l0_11.length ∧ v10 = .int .i64 (q : Int) ∧ Aside0 (spec_SameDesk.allB (spec_SameDesk.d11 l0_11 l1_11) m q = B11) ∧ Aside0 (Below w2.heap.size w2 wr))
             case atStart => exact ⟨0, by omega, rfl, HJ11, HBq⟩
             case round =>
              clear HJ11 HBq
              obtain ⟨q, hq, rfl, HJ11, HBq⟩ := hrel
              obtain ⟨x, hqx⟩ : ∃ x : Int, x = (q : Int) := ⟨_, rfl⟩
              rw [← hqx]
              have z0 : wr.cell? ⟨g0, 11, none⟩ = some (.slice A0_11 l0_11.length c0_11) := (blk_cell (blk_below BK0.out HBq.out) 11).trans rfl
              have z1 : wr.cell? ⟨g1, 11, none⟩ = some (.slice A1_11 l1_11.length c1_11) := (blk_cell (blk_below BK1.out HBq.out) 11).trans rfl
              cases gk with
              | zero =>
               have hc : decide (x < (l0_11.length : Int)) = false := decide_eq_false (by omega)
               have hb : B11 = true := by have := HJ11.out; simpa [spec_SameDesk.allB] using this.symm
               have HT11 := Aside0.mk hb
               clear hb hqx
               go_wp2
               go_loopg [11] l0_12.length (fun m v11 wr => ∃ q : Nat, q + m = l0_12.length ∧ v11 = .int .i64 (q : Int) ∧ Aside0 (spec_SameDesk.allB (spec_SameDesk.d12 l0_12 l1_12) m q = B12) ∧ Aside0 (Below w2.heap.size w2 wr))
               case atStart => exact ⟨0, by omega, rfl, HJ12, HBq⟩
               case round =>
                clear HJ12 HBq
                obtain ⟨q, hq, rfl, HJ12, HBq⟩ := hrel
                obtain ⟨x, hqx⟩ : ∃ x : Int, x = (q : Int) := ⟨_, rfl⟩
                rw [← hqx]
                have z0 : wr.cell? ⟨g0, 12, none⟩ = some (.slice A0_12 l0_12.length c0_12) := (blk_cell (blk_below BK0.out HBq.out) 12).trans rfl
                have z1 : wr.cell? ⟨g1, 12, none⟩ = some (.slice A1_12 l1_12.length c1_12) := (blk_cell (blk_below BK1.out HBq.out) 12).trans rfl
                cases gk with
                | zero =>
                 have hc : decide (x < (l0_12.length : Int)) = false := decide_eq_false (by omega)
                 have hb : B12 = true := by have := HJ12.out; simpa [spec_SameDesk.allB] using this.symm
                 have HT12 := Aside0.mk hb
                 clear hb hqx
                 go_wp2
                 go_ret
                 have hr : r = true := by rw [HR.out, HT3.out, HT4.out, HT5.out, HT9.out, HT10.out, HT11.out, HT12.out]; rfl
                 subst hr
                 exact ⟨rfl, below_step HB.out HBq.out⟩
                | succ m =>
                 have hc : decide (x < (l0_12.length : Int)) = true := decide_eq_true (by omega)
                 have p0 : 0 ≤ x := by omega
                 have q0 : x < (l0_12.length : Int) := by omega
                 have q1 : x < (l1_12.length : Int) := by have := E12.out; omega
                 have hw : wrap64 (x + 1) = ((q + 1 : Nat) : Int) := by have := S12.out; unfold wrap64; omega
                 have HQX := Aside0.mk hqx
                 clear hqx
                 have C0 := Kd.C_below (Kd.C_below HR0_12.out HB.out) HBq.out
                 have C1 := Kd.C_below (Kd.C_below HR1_12.out HB.out) HBq.out
                 obtain ⟨ad0, ee0, x0_0, x0_1, x0_2, x0_3⟩ := at_T81 C0 x p0 q0
                 cases ee0
                 obtain ⟨ad1, ee1, x1_0, x1_1, x1_2, x1_3⟩ := at_T81 C1 x p0 q1
                 cases ee1
                 clear C0 C1
                 replace p0 := eq_true p0
                 replace q0 := eq_true q0
                 replace q1 := eq_true q1
                 have hJ := HJ12.out
                 by_cases hd : spec_SameDesk.d12 l0_12 l1_12 (q : Int) = true
                 ·have hb : B12 = false := by rw [← hJ]; simp [spec_SameDesk.allB, hd]
                  have hr : r = false := by rw [HR.out, hb]; simp
                  subst hr
                  have hx : ((!((((rd_T81 l0_12 x).f0).toList) == (((rd_T81 l1_12 x).f0).toList))) || ((!(((rd_T81 l0_12 x).f1) == ((rd_T81 l1_12 x).f1))) || ((!(((rd_T81 l0_12 x).f2) == ((rd_T81 l1_12 x).f2))) || (!(((rd_T81 l0_12 x).f3) == ((rd_T81 l1_12 x).f3)))))) = true := by rw [HQX.out]; exact hd
                  clear hd hJ hb
                  go_wp2
                  repeat (go_quiet (fail); try go_wp2)
                  go_ret
                  exact ⟨rfl, below_step HB.out (pw_below_drewN HBq.out _)⟩
                 ·have hx : ((!((((rd_T81 l0_12 x).f0).toList) == (((rd_T81 l1_12 x).f0).toList))) || ((!(((rd_T81 l0_12 x).f1) == ((rd_T81 l1_12 x).f1))) || ((!(((rd_T81 l0_12 x).f2) == ((rd_T81 l1_12 x).f2))) || (!(((rd_T81 l0_12 x).f3) == ((rd_T81 l1_12 x).f3)))))) = false := by rw [HQX.out]; exact Bool.eq_false_iff.mpr hd
                  have hJ' : spec_SameDesk.allB (spec_SameDesk.d12 l0_12 l1_12) m (q + 1) = B12 := by rw [← hJ]; simp [spec_SameDesk.allB, hd]
                  have HJ' := Aside0.mk hJ'
                  clear hd hJ hJ'
                  go_wp2
                  repeat (go_quiet (fail); try go_wp2)
                  go_roundg m
                  case measure => omega
                  case rel => exact ⟨q + 1, by omega, by first | rw [hw] | simp, HJ', ⟨pw_below_drewN HBq.out _⟩⟩
              | succ m =>
               have hc : decide (x < (l0_11.length : Int)) = true := decide_eq_true (by omega)
               have p0 : 0 ≤ x := by omega
               have q0 : x < (l0_11.length : Int) := by omega
               have q1 : x < (l1_11.length : Int) := by have := E11.out; omega
               have hw : wrap64 (x + 1) = ((q + 1 : Nat) : Int) := by have := S11.out; unfold wrap64; omega
               have HQX := Aside0.mk hqx
               clear hqx
               have C0 := Kd.C_below (Kd.C_below HR0_11.out HB.out) HBq.out
               have C1 := Kd.C_below (Kd.C_below HR1_11.out HB.out) HBq.out
               obtain ⟨ad0, ee0, x0_0, x0_1, x0_2⟩ := at_T79 C0 x p0 q0
               cases ee0
               obtain ⟨ad1, ee1, x1_0, x1_1, x1_2⟩ := at_T79 C1 x p0 q1
               cases ee1
               clear C0 C1
               replace p0 := eq_true p0
               replace q0 := eq_true q0
               replace q1 := eq_true q1
               have hJ := HJ11.out
               by_cases hd : spec_SameDesk.d11 l0_11 l1_11 (q : Int) = true
               ·have hb : B11 = false := by rw [← hJ]; simp [spec_SameDesk.allB, hd]
                have hr : r = false := by rw [HR.out, hb]; simp
                subst hr
                have hx : ((!((((rd_T79 l0_11 x).f0).toList) == (((rd_T79 l1_11 x).f0).toList))) || ((!(((rd_T79 l0_11 x).f1) == ((rd_T79 l1_11 x).f1))) || (!(((rd_T79 l0_11 x).f2) == ((rd_T79 l1_11 x).f2))))) = true := by rw [HQX.out]; exact hd
                clear hd hJ hb
                go_wp2
                repeat (go_quiet (fail); try go_wp2)
                go_ret
                exact ⟨rfl, below_step HB.out (pw_below_drewN HBq.out _)⟩
               ·have hx : ((!((((rd_T79 l0_11 x).f0).toList) == (((rd_T79 l1_11 x).f0).toList))) || ((!(((rd_T79 l0_11 x).f1) == ((rd_T79 l1_11 x).f1))) || (!(((rd_T79 l0_11 x).f2) == ((rd_T79 l1_11 x).f2))))) = false := by rw [HQX.out]; exact Bool.eq_false_iff.mpr hd
                have hJ' : spec_SameDesk.allB (spec_SameDesk.d11 l0_11 l1_11) m (q + 1) = B11 := by rw [← hJ]; simp [spec_SameDesk.allB, hd]
                have HJ' := Aside0.mk hJ'
                clear hd hJ hJ'
                go_wp2
                repeat (go_quiet (fail); try go_wp2)
                go_roundg m
                case measure => omega
                case rel => exact ⟨q + 1, by omega, by first | rw [hw] | simp, HJ', ⟨pw_below_drewN HBq.out _⟩⟩
            | succ m =>
             have hc : decide (x < (l0_10.length : Int)) = true := decide_eq_true (by omega)
             have p0 : 0 ≤ x := by omega
             have q0 : x < (l0_10.length : Int) := by omega
             have q1 : x < (l1_10.length : Int) := by have := E10.out; omega
             have hw : wrap64 (x + 1) = ((q + 1 : Nat) : Int) := by have := S10.out; unfold wrap64; omega
             have HQX := Aside0.mk hqx
             clear hqx
             have C0 := Kd.C_below (Kd.C_below HR0_10.out HB.out) HBq.out
             have C1 := Kd.C_below (Kd.C_below HR1_10.out HB.out) HBq.out
             obtain ⟨ad0, ee0, x0_0, x0_1, x0_2, x0_3⟩ := at_T77 C0 x p0 q0
             cases ee0
             obtain ⟨ad1, ee1, x1_0, x1_1, x1_2, x1_3⟩ := at_T77 C1 x p0 q1
             cases ee1
             clear C0 C1
             replace p0 := eq_true p0
             replace q0 := eq_true q0
             replace q1 := eq_true q1
             have hJ := HJ10.out
             by_cases hd : spec_SameDesk.d10 l0_10 l1_10 (q : Int) = true
             ·have hb : B10 = false := by rw [← hJ]; simp [spec_SameDesk.allB, hd]
              have hr : r = false := by rw [HR.out, hb]; simp
              subst hr
              have hx : ((!((((rd_T77 l0_10 x).f0).toList) == (((rd_T77 l1_10 x).f0).toList))) || ((!(((rd_T77 l0_10 x).f1) == ((rd_T77 l1_10 x).f1))) || ((!(((rd_T77 l0_10 x).f2) == ((rd_T77 l1_10 x).f2))) || (!(((rd_T77 l0_10 x).f3) == ((rd_T77 l1_10 x).f3)))))) = true := by rw [HQX.out]; exact hd
              clear hd hJ hb
              go_wp2
              repeat (go_quiet (fail); try go_wp2)
              go_ret
              exact ⟨rfl, below_step HB.out (pw_below_drewN HBq.out _)⟩
             ·have hx : ((!((((rd_T77 l0_10 x).f0).toList) == (((rd_T77 l1_10 x).f0).toList))) || ((!(((rd_T77 l0_10 x).f1) == ((rd_T77 l1_10 x).f1))) || ((!(((rd_T77 l0_10 x).f2) == ((rd_T77 l1_10 x).f2))) || (!(((rd_T77 l0_10 x).f3) == ((rd_T77 l1_10 x).f3)))))) = false := by rw [HQX.out]; exact Bool.eq_false_iff.mpr hd
              have hJ' : spec_SameDesk.allB (spec_SameDesk.d10 l0_10 l1_10) m (q + 1) = B10 := by rw [← hJ]; simp [spec_SameDesk.allB, hd]
              have HJ' := Aside0.mk hJ'
              clear hd hJ hJ'
              go_wp2
              repeat (go_quiet (fail); try go_wp2)
              go_roundg m
              case measure => omega
              case rel => exact ⟨q + 1, by omega, by first | rw [hw] | simp, HJ', ⟨pw_below_drewN HBq.out _⟩⟩
          | succ m =>
           have hc : decide (x < (l0_9.length : Int)) = true := decide_eq_true (by omega)
           have p0 : 0 ≤ x := by omega
           have q0 : x < (l0_9.length : Int) := by omega
           have q1 : x < (l1_9.length : Int) := by have := E9.out; omega
           have hw : wrap64 (x + 1) = ((q + 1 : Nat) : Int) := by have := S9.out; unfold wrap64; omega
           have HQX := Aside0.mk hqx
           clear hqx
           have C0 := Kd.C_below (Kd.C_below HR0_9.out HB.out) HBq.out
           have C1 := Kd.C_below (Kd.C_below HR1_9.out HB.out) HBq.out
           obtain ⟨ad0, ee0, x0_0, x0_1, x0_2, x0_3⟩ := at_T75 C0 x p0 q0
           cases ee0
           obtain ⟨ad1, ee1, x1_0, x1_1, x1_2, x1_3⟩ := at_T75 C1 x p0 q1
           cases ee1
           clear C0 C1
           replace p0 := eq_true p0
           replace q0 := eq_true q0
           replace q1 := eq_true q1
           have hJ := HJ9.out
           by_cases hd : spec_SameDesk.d9 l0_9 l1_9 (q : Int) = true
           ·have hb : B9 = false := by rw [← hJ]; simp [spec_SameDesk.allB, hd]
            have hr : r = false := by rw [HR.out, hb]; simp
            subst hr
            have hx : ((!((((rd_T75 l0_9 x).f0).toList) == (((rd_T75 l1_9 x).f0).toList))) || ((!(((rd_T75 l0_9 x).f1) == ((rd_T75 l1_9 x).f1))) || ((!(((rd_T75 l0_9 x).f2) == ((rd_T75 l1_9 x).f2))) || (!(((rd_T75 l0_9 x).f3) == ((rd_T75 l1_9 x).f3)))))) = true := by rw [HQX.out]; exact hd
            clear hd hJ hb
            go_wp2
            repeat (go_quiet (fail); try go_wp2)
            go_ret
            exact ⟨rfl, below_step HB.out (pw_below_drewN HBq.out _)⟩
           ·have hx : ((!((((rd_T75 l0_9 x).f0).toList) == (((rd_T75 l1_9 x).f0).toList))) || ((!(((rd_T75 l0_9 x).f1) == ((rd_T75 l1_9 x).f1))) || ((!(((rd_T75 l0_9 x).f2) == ((rd_T75 l1_9 x).f2))) || (!(((rd_T75 l0_9 x).f3) == ((rd_T75 l1_9 x).f3)))))) = false := by rw [HQX.out]; exact Bool.eq_false_iff.mpr hd
            have hJ' : spec_SameDesk.allB (spec_SameDesk.d9 l0_9 l1_9) m (q + 1) = B9 := by rw [← hJ]; simp [spec_SameDesk.allB, hd]
            have HJ' := Aside0.mk hJ'
            clear hd hJ hJ'
            go_wp2
            repeat (go_quiet (fail); try go_wp2)
            go_roundg m
            case measure => omega
            case rel => exact ⟨q + 1, by omega, by first | rw [hw] | simp, HJ', ⟨pw_below_drewN HBq.out _⟩⟩
        | succ m =>
         have hc : decide (x < (l0_5.length : Int)) = true := decide_eq_true (by omega)
         have p0 : 0 ≤ x := by omega
         have q0 : x < (l0_5.length : Int) := by omega
         have q1 : x < (l1_5.length : Int) := by have := E5.out; omega
         have hw : wrap64 (x + 1) = ((q + 1 : Nat) : Int) := by have := S5.out; unfold wrap64; omega
         have HQX := Aside0.mk hqx
         clear hqx
         have C0 := Kd.C_below (Kd.C_below HR0_5.out HB.out) HBq.out
         have C1 := Kd.C_below (Kd.C_below HR1_5.out HB.out) HBq.out
         obtain ⟨ad0, ee0, x0_0, x0_1, x0_2, x0_3, x0_4⟩ := at_T73 C0 x p0 q0
         cases ee0
         obtain ⟨ad1, ee1, x1_0, x1_1, x1_2, x1_3, x1_4⟩ := at_T73 C1 x p0 q1
         cases ee1
         clear C0 C1
         replace p0 := eq_true p0
         replace q0 := eq_true q0
         replace q1 := eq_true q1
         have hJ := HJ5.out
         by_cases hd : spec_SameDesk.d5 l0_5 l1_5 (q : Int) = true
         ·have hb : B5 = false := by rw [← hJ]; simp [spec_SameDesk.allB, hd]
          have hr : r = false := by rw [HR.out, hb]; simp
          subst hr
          have hx : ((!((((rd_T73 l0_5 x).f0).toList) == (((rd_T73 l1_5 x).f0).toList))) || ((!(((rd_T73 l0_5 x).f1) == ((rd_T73 l1_5 x).f1))) || ((!(((rd_T73 l0_5 x).f2) == ((rd_T73 l1_5 x).f2))) || ((!(((rd_T73 l0_5 x).f3) == ((rd_T73 l1_5 x).f3))) || (!(((rd_T73 l0_5 x).f4) == ((rd_T73 l1_5 x).f4))))))) = true := by rw [HQX.out]; exact hd
          clear hd hJ hb
          go_wp2
          repeat (go_quiet (fail); try go_wp2)
          go_ret
          exact ⟨rfl, below_step HB.out (pw_below_drewN HBq.out _)⟩
         ·have hx : ((!((((rd_T73 l0_5 x).f0).toList) == (((rd_T73 l1_5 x).f0).toList))) || ((!(((rd_T73 l0_5 x).f1) == ((rd_T73 l1_5 x).f1))) || ((!(((rd_T73 l0_5 x).f2) == ((rd_T73 l1_5 x).f2))) || ((!(((rd_T73 l0_5 x).f3) == ((rd_T73 l1_5 x).f3))) || (!(((rd_T73 l0_5 x).f4) == ((rd_T73 l1_5 x).f4))))))) = false := by rw [HQX.out]; exact Bool.eq_false_iff.mpr hd
          have hJ' : spec_SameDesk.allB (spec_SameDesk.d5 l0_5 l1_5) m (q + 1) = B5 := by rw [← hJ]; simp [spec_SameDesk.allB, hd]
          have HJ' := Aside0.mk hJ'
          clear hd hJ hJ'
          go_wp2
          repeat (go_quiet (fail); try go_wp2)
          go_roundg m
          case measure => omega
          case rel => exact ⟨q + 1, by omega, by first | rw [hw] | simp, HJ', ⟨pw_below_drewN HBq.out _⟩⟩
      | succ m =>
       have hc : decide (x < (l0_4.length : Int)) = true := decide_eq_true (by omega)
       have p0 : 0 ≤ x := by omega
       have q0 : x < (l0_4.length : Int) := by omega
       have q1 : x < (l1_4.length : Int) := by have := E4.out; omega
       have hw : wrap64 (x + 1) = ((q + 1 : Nat) : Int) := by have := S4.out; unfold wrap64; omega
       have HQX := Aside0.mk hqx
       clear hqx
       have C0 := Kd.C_below (Kd.C_below HR0_4.out HB.out) HBq.out
       have C1 := Kd.C_below (Kd.C_below HR1_4.out HB.out) HBq.out
       have hJ := Option.bind_eq_some_iff.mp HJ4.out
       obtain ⟨b, hb, hJ⟩ := hJ
       obtain ⟨ad0, A0', c0', ee0, _, _, _, _⟩ := at_T71 C0 x p0 q0
       cases ee0
       obtain ⟨cs0, hk0, hw0⟩ := ViewAt.some_C (z := z71) (i := x) C0 rfl p0 q0
       obtain ⟨V0, d0, ew0, hcv0, hCv0⟩ := k71_open hk0
       subst ew0
       have HV0 := Aside0.mk (show ViewAt wr (ad0.add (x.toNat * 2)) _ from hw0)
       have HC0 := Aside0.mk (show ((rd_T71 l0_4 x).f1).length ≤ d0 from hcv0)
       have HD0 := Aside0.mk (show Kd.C _ wr V0 ((rd_T71 l0_4 x).f1).length ((rd_T71 l0_4 x).f1) from hCv0)
       clear hk0 hw0 hcv0 hCv0
       obtain ⟨ad1, A1', c1', ee1, _, _, _, _⟩ := at_T71 C1 x p0 q1
       cases ee1
       obtain ⟨cs1, hk1, hw1⟩ := ViewAt.some_C (z := z71) (i := x) C1 rfl p0 q1
       obtain ⟨V1, d1, ew1, hcv1, hCv1⟩ := k71_open hk1
       subst ew1
       have HV1 := Aside0.mk (show ViewAt wr (ad1.add (x.toNat * 2)) _ from hw1)
       have HC1 := Aside0.mk (show ((rd_T71 l1_4 x).f1).length ≤ d1 from hcv1)
       have HD1 := Aside0.mk (show Kd.C _ wr V1 ((rd_T71 l1_4 x).f1).length ((rd_T71 l1_4 x).f1) from hCv1)
       clear hk1 hw1 hcv1 hCv1
       clear C0 C1
       replace p0 := eq_true p0
       replace q0 := eq_true q0
       replace q1 := eq_true q1
       rw [← HQX.out] at hb
       have HG := Aside0.mk hb
       have HJ := Aside0.mk hJ
       clear hb hJ
       cases b with
       | false =>
        have hb : b4 = false := by have := HJ.out; simpa using this.symm
        have hr : r = false := by rw [HR.out, hb]; simp
        subst hr
        clear hb
        go_wp2_with (first | (go_at_call 20; go_loud ((with_reducible refine (spec_l08Same.calls k _ ((rd_T71 l0_4 x).f0) V0 d0 ((rd_T71 l0_4 x).f1) _ ((rd_T71 l1_4 x).f0) V1 d1 ((rd_T71 l1_4 x).f1) false _ ?s1 HC0.out ?s2 HC1.out ?s3 ?s4 HG.out).mono ?_); (case s1 => first | exact HD0.out | exact Kd.C_drewN HD0.out _); (case s2 => first | exact HD1.out | exact Kd.C_drewN HD1.out _); (case s3 => exact HV0.out); (case s4 => exact HV1.out); rintro e w5 ⟨rfl, ⟨nd, rfl⟩⟩; (try exact ⟨rfl, _, World.drewN_drewN _ _ _⟩))))
        repeat (go_quiet (first | (go_at_call 20; go_loud ((with_reducible refine (spec_l08Same.calls k _ ((rd_T71 l0_4 x).f0) V0 d0 ((rd_T71 l0_4 x).f1) _ ((rd_T71 l1_4 x).f0) V1 d1 ((rd_T71 l1_4 x).f1) false _ ?s1 HC0.out ?s2 HC1.out ?s3 ?s4 HG.out).mono ?_); (case s1 => first | exact HD0.out | exact Kd.C_drewN HD0.out _); (case s2 => first | exact HD1.out | exact Kd.C_drewN HD1.out _); (case s3 => exact HV0.out); (case s4 => exact HV1.out); rintro e w5 ⟨rfl, ⟨nd, rfl⟩⟩; (try exact ⟨rfl, _, World.drewN_drewN _ _ _⟩)))); try go_wp2_with (first | (go_at_call 20; go_loud ((with_reducible refine (spec_l08Same.calls k _ ((rd_T71 l0_4 x).f0) V0 d0 ((rd_T71 l0_4 x).f1) _ ((rd_T71 l1_4 x).f0) V1 d1 ((rd_T71 l1_4 x).f1) false _ ?s1 HC0.out ?s2 HC1.out ?s3 ?s4 HG.out).mono ?_); (case s1 => first | exact HD0.out | exact Kd.C_drewN HD0.out _); (case s2 => first | exact HD1.out | exact Kd.C_drewN HD1.out _); (case s3 => exact HV0.out); (case s4 => exact HV1.out); rintro e w5 ⟨rfl, ⟨nd, rfl⟩⟩; (try exact ⟨rfl, _, World.drewN_drewN _ _ _⟩)))))
        go_ret
        exact ⟨rfl, below_step HB.out (pw_below_drewN HBq.out _)⟩
       | true =>
        have HJ' := Aside0.mk (show spec_SameDesk.allO (fun i => spec_l08Same.f k ((rd_T71 l0_4 i).f0) ((rd_T71 l0_4 i).f1) ((rd_T71 l1_4 i).f0) ((rd_T71 l1_4 i).f1)) m (q + 1) = some b4 by have := HJ.out; simpa using this)
        clear HJ
        go_wp2_with (first | (go_at_call 20; go_loud ((with_reducible refine (spec_l08Same.calls k _ ((rd_T71 l0_4 x).f0) V0 d0 ((rd_T71 l0_4 x).f1) _ ((rd_T71 l1_4 x).f0) V1 d1 ((rd_T71 l1_4 x).f1) true _ ?s1 HC0.out ?s2 HC1.out ?s3 ?s4 HG.out).mono ?_); (case s1 => first | exact HD0.out | exact Kd.C_drewN HD0.out _); (case s2 => first | exact HD1.out | exact Kd.C_drewN HD1.out _); (case s3 => exact HV0.out); (case s4 => exact HV1.out); rintro e w5 ⟨rfl, ⟨nd, rfl⟩⟩; (try exact ⟨rfl, _, World.drewN_drewN _ _ _⟩))))
        repeat (go_quiet (first | (go_at_call 20; go_loud ((with_reducible refine (spec_l08Same.calls k _ ((rd_T71 l0_4 x).f0) V0 d0 ((rd_T71 l0_4 x).f1) _ ((rd_T71 l1_4 x).f0) V1 d1 ((rd_T71 l1_4 x).f1) true _ ?s1 HC0.out ?s2 HC1.out ?s3 ?s4 HG.out).mono ?_); (case s1 => first | exact HD0.out | exact Kd.C_drewN HD0.out _); (case s2 => first | exact HD1.out | exact Kd.C_drewN HD1.out _); (case s3 => exact HV0.out); (case s4 => exact HV1.out); rintro e w5 ⟨rfl, ⟨nd, rfl⟩⟩; (try exact ⟨rfl, _, World.drewN_drewN _ _ _⟩)))); try go_wp2_with (first | (go_at_call 20; go_loud ((with_reducible refine (spec_l08Same.calls k _ ((rd_T71 l0_4 x).f0) V0 d0 ((rd_T71 l0_4 x).f1) _ ((rd_T71 l1_4 x).f0) V1 d1 ((rd_T71 l1_4 x).f1) true _ ?s1 HC0.out ?s2 HC1.out ?s3 ?s4 HG.out).mono ?_); (case s1 => first | exact HD0.out | exact Kd.C_drewN HD0.out _); (case s2 => first | exact HD1.out | exact Kd.C_drewN HD1.out _); (case s3 => exact HV0.out); (case s4 => exact HV1.out); rintro e w5 ⟨rfl, ⟨nd, rfl⟩⟩; (try exact ⟨rfl, _, World.drewN_drewN _ _ _⟩)))))
        go_roundg m
        case measure => omega
        case rel => exact ⟨q + 1, by omega, by first | rw [hw] | simp, HJ', ⟨pw_below_drewN HBq.out _⟩⟩
    | succ m =>
     have hc : decide (x < (l0_3.length : Int)) = true := decide_eq_true (by omega)
     have p0 : 0 ≤ x := by omega
     have q0 : x < (l0_3.length : Int) := by omega
     have q1 : x < (l1_3.length : Int) := by have := E3.out; omega
     have hw : wrap64 (x + 1) = ((q + 1 : Nat) : Int) := by have := S3.out; unfold wrap64; omega
     have HQX := Aside0.mk hqx
     clear hqx
     have C0 := Kd.C_below (Kd.C_below HR0_3.out HB.out) HBq.out
     have C1 := Kd.C_below (Kd.C_below HR1_3.out HB.out) HBq.out
     obtain ⟨ad0, ee0, x0_0, x0_1, x0_2⟩ := at_T66 C0 x p0 q0
     cases ee0
     obtain ⟨ad1, ee1, x1_0, x1_1, x1_2⟩ := at_T66 C1 x p0 q1
     cases ee1
     clear C0 C1
     replace p0 := eq_true p0
     replace q0 := eq_true q0
     replace q1 := eq_true q1
     have hJ := HJ3.out
     by_cases hd : spec_SameDesk.d3 l0_3 l1_3 (q : Int) = true
     ·have hb : B3 = false := by rw [← hJ]; simp [spec_SameDesk.allB, hd]
      have hr : r = false := by rw [HR.out, hb]; simp
      subst hr
      have hx : ((!((((rd_T66 l0_3 x).f0).toList) == (((rd_T66 l1_3 x).f0).toList))) || ((!((((rd_T66 l0_3 x).f1).toList) == (((rd_T66 l1_3 x).f1).toList))) || (!(((rd_T66 l0_3 x).f2) == ((rd_T66 l1_3 x).f2))))) = true := by rw [HQX.out]; exact hd
      clear hd hJ hb
      go_wp2
      repeat (go_quiet (fail); try go_wp2)
      go_ret
      exact ⟨rfl, below_step HB.out (pw_below_drewN HBq.out _)⟩
     ·have hx : ((!((((rd_T66 l0_3 x).f0).toList) == (((rd_T66 l1_3 x).f0).toList))) || ((!((((rd_T66 l0_3 x).f1).toList) == (((rd_T66 l1_3 x).f1).toList))) || (!(((rd_T66 l0_3 x).f2) == ((rd_T66 l1_3 x).f2))))) = false := by rw [HQX.out]; exact Bool.eq_false_iff.mpr hd
      have hJ' : spec_SameDesk.allB (spec_SameDesk.d3 l0_3 l1_3) m (q + 1) = B3 := by rw [← hJ]; simp [spec_SameDesk.allB, hd]
      have HJ' := Aside0.mk hJ'
      clear hd hJ hJ'
      go_wp2
      repeat (go_quiet (fail); try go_wp2)
      go_roundg m
      case measure => omega
      case rel => exact ⟨q + 1, by omega, by first | rw [hw] | simp, HJ', ⟨pw_below_drewN HBq.out _⟩⟩
end Go.Proofs.Ytmfhncjkfhdlcaa.XM
end

section
namespace Go.Proofs.Ytmfhncjkfhdlcaa.XM
open Go.RowKit Go.Proofs.YtmfhncjkfhdlcaaW.PrintWords Go.Proofs.YtmfhncjkfhdlcaaW.PrintLast Go.Proofs.YtmfhncjkfhdlcaaW.PrintMore
attribute [local go_sem] run_eql_slice_nil binOp_string_gtr' binOp_string_leq' binOp_string_geq' max2_int min2_int max_two min_two max_three min_three max_four min_four   -- for this text's walks alone
set_option linter.unusedVariables false
set_option linter.unusedSimpArgs false
def laws_toInt64S.l0 : Nat → List Int → List Int → Int → Option (List Int)
 | 0, _, _, _ => none
 | k + 1, x0, x3, x4 => if x4 < (x0.length : Int) then (if 0 ≤ x4 then (if x4 < (x3.length : Int) then (laws_toInt64S.l0 k x0 (x3.set (x4 : Int).toNat (rd x0 x4)) (wrap64 (x4 + 1))) else (none)) else (none)) else (some x3)
def laws_toInt64S.f (k : Nat) (l0 : List Int) : Option (List Int) := if 0 ≤ (l0.length : Int) then (if ((l0.length : Int) : Int).toNat ≤ 35184372088832 then (laws_toInt64S.l0 k l0 (List.replicate ((l0.length : Int) : Int).toNat 0) 0) else (none)) else (none)
set_option maxHeartbeats 8000000 in
set_option maxRecDepth 100000 in
theorem laws_toInt64S.calls (k : Nat) (A0 : Option Addr) (c0 : Nat) (l0 : List Int) (r : List Int) (w : World) (hr0 : Kd.C (Kd.int .i64) w A0 l0.length l0) (hc0 : l0.length ≤ c0) (h : laws_toInt64S.f k l0 = some r) :
  Calls Try.prog 22 #[.slice A0 l0.length c0] w fun e w' => ∃ v0_ : Value, e = .returned (v0_) ∧ Kd.R (Kd.int .i64) 2 w' w.heap.size (fun _ => True) v0_ r ∧ Below w.heap.size w w' := by
 have HR0 := Aside0.mk hr0
 have HC0 := Aside0.mk hc0
 clear hr0 hc0
 have HB := Aside0.mk (Below.refl w.heap.size w)
 have H : (if 0 ≤ (l0.length : Int) then (if ((l0.length : Int) : Int).toNat ≤ 35184372088832 then (laws_toInt64S.l0 k l0 (List.replicate ((l0.length : Int) : Int).toNat 0) 0) else (none)) else (none)) = some r := h
 clear h
 by_cases c2 : 0 ≤ (l0.length : Int)
 ·rw [if_pos c2] at H
  have c2b0 := eq_true c2
  have c2b1 : decide (0 ≤ (l0.length : Int)) = true := decide_eq_true c2
  clear c2
  by_cases c3 : ((l0.length : Int) : Int).toNat ≤ 35184372088832
  ·rw [if_pos c3] at H
   have c3b0 := eq_true c3
   have c3b1 : decide (((l0.length : Int) : Int).toNat ≤ 35184372088832) = true := decide_eq_true c3
   clear c3
   obtain ⟨y141, hy141⟩ : ∃ y_ : List Int, y_ = (List.replicate ((l0.length : Int) : Int).toNat 0) := ⟨_, rfl⟩
   replace H : (laws_toInt64S.l0 k l0 y141 0) = some r := by first | (rw [hy141]; with_reducible exact H) | (have H2_ := (Option.bind_some _ _).symm.trans H; rw [hy141]; with_reducible exact H2_) | (have H2_ := (Option.bind_some _ _).symm.trans H; with_reducible exact H2_) | with_reducible exact H | (rw [hy141]; exact H) | exact H
   have Ny141 := Aside0.mk hy141
   clear hy141
   have H' := Aside0.mk H
   clear H
   go_enter Try.func22, Try.ntmps22
   go_wp2_with (first | ((with_reducible refine gate_dst (N := 7) rfl ?_); refine Kd.R_make (Kd.int .i64) _ 2 rfl (N := 7) rfl 22 _ _ rfl (l0.length : Int) rfl rfl Try.underlying22 (.int .i64 0) 8 info2 rfl (by decide) (by omega) 0 (ok := fun _ => True) (okp := fun _ => True) rfl (fun _ hk => hk) trivial oZ (Nat.le_trans (Nat.mul_le_mul_right _ (oZ : (l0.length : Int).toNat ≤ 35184372088832)) (by omega)) (Below.refl _ _) (Nat.le_refl _) ?_; intro v142 w4 ho5 hb hg_ hnew_; clear hg_ hnew_; (first | rw [← Ny141.out] at ho5 | (simp only [Int.reduceToNat] at ho5; rw [← Ny141.out] at ho5)); have n0_ := Aside0.mk (Kd.R_lower ho5 bsZ); have n1_ := Aside0.mk (below_step bZ hb); clear HB; have HO143 := n0_; have HB := n1_; clear n0_ n1_; clear hb ho5))
   go_loopg [4] k (fun kq v4 w' => ∃ (x3_1 : List Int) (x4_1 : Int), v4 = .int .i64 x4_1 ∧ Aside0 (laws_toInt64S.l0 kq l0 x3_1 x4_1 = some r) ∧ Aside0 (kq ≤ k) ∧ Aside0 (Kd.R (Kd.int .i64) 2 w' w.heap.size (fun _ => True) v142 x3_1) ∧ Aside0 (Below w.heap.size w w'))
   case atStart => exact ⟨(y141), (0), sZ, H', ⟨Nat.le_refl _⟩, ⟨Kd.rZ HO143.out⟩, ⟨bZ⟩⟩
   case round =>
    clear H'; (try clear c2); (try clear c2b0); (try clear c2b1); (try clear p2); (try clear c3); (try clear c3b0); (try clear c3b1)
    obtain ⟨x3_1, x4_1, rfl, HA, HK1, HO_3, HB⟩ := hrel
    cases gk with
    | zero => exact absurd HA.out (by simp [laws_toInt64S.l0])
    | succ k1 =>
     have H := HA.out
     clear HA
     simp only [laws_toInt64S.l0] at H
     by_cases c6 : x4_1 < (l0.length : Int)
     ·rw [if_pos c6] at H
      have c6b0 : decide (x4_1 < (l0.length : Int)) = true := decide_eq_true c6
      clear c6
      by_cases c7 : 0 ≤ x4_1
      ·rw [if_pos c7] at H
       have c7b0 : decide (0 ≤ x4_1) = true := decide_eq_true c7
       clear c7
       by_cases c8 : x4_1 < (x3_1.length : Int)
       ·rw [if_pos c8] at H
        have c8b0 : decide (x4_1 < (x3_1.length : Int)) = true := decide_eq_true c8
        clear c8
        obtain ⟨y145, hy145⟩ : ∃ y_ : List Int, y_ = (x3_1.set (x4_1 : Int).toNat (rd l0 x4_1)) := ⟨_, rfl⟩
        replace H : (laws_toInt64S.l0 k1 l0 y145 (wrap64 (x4_1 + 1))) = some r := by first | (rw [hy145]; with_reducible exact H) | (have H2_ := (Option.bind_some _ _).symm.trans H; rw [hy145]; with_reducible exact H2_) | (have H2_ := (Option.bind_some _ _).symm.trans H; with_reducible exact H2_) | with_reducible exact H | (rw [hy145]; exact H) | exact H
        have Ny145 := Aside0.mk hy145
        clear hy145
        have H' := Aside0.mk H
        clear H
        have p144 : 0 ≤ (x4_1 : Int) := oZ
        have q144 : x4_1 < (l0.length : Int) := oZ
        obtain ⟨ad144, e144, hx144_0⟩ := Kd.at_int HR0.out x4_1 p144 q144
        cases e144
        replace hx144_0 := (HB.out.cell (World.block_lt_of_cell? w _ hx144_0)).trans hx144_0
        replace p144 := eq_true p144
        replace q144 := eq_true q144
        have p9 : 0 ≤ (x4_1 : Int) := oZ
        have q9 : (x4_1 : Int) < ((x3_1.length : Int) : Int) := oZ
        obtain ⟨go9, co9, eo9, gb9, gl9, cl9, HG9⟩ := Kd.R_form HO_3.out (by omega)
        (first | cases eo9 | (injection eo9 with ea_ en_ ec_; (first | subst ea_ | (injection ea_ with ea_; subst ea_)); subst ec_; clear en_))
        have GB9 := Aside0.mk gb9
        have GG9 := Aside0.mk HG9
        clear gb9 gl9 HG9
        obtain ⟨hx9_0, hf9_0⟩ := Kd.R_celln 0 HO_3.out (x4_1 : Int) p9 q9
        replace p9 := eq_true p9
        replace q9 := eq_true q9
        have HP10 := Kd.R_putg HO_3.out (x4_1 : Int) (rd l0 x4_1)
        go_wp2_with (first | ((with_reducible refine gate_store (t := 2) (p := 20) rfl ?_); refine store_event (t := 2) (p := 20) (v := ?vo_w11) (w1 := (wr.setCell ⟨go9, (x4_1 : Int).toNat, none⟩ (.int .i64 (rd l0 x4_1)))) ?hg ?ho ?hn ?hr ?_; (case ho => rfl); (case hg => rfl); (case hn => rfl); (case hr => first | (go_simp; done) | (go_simp; rfl)); intro w11 hw; have hg : wr.grownBy w11 (some go9) := (by rw [hw]; exact HP10.2); have hp_ : Kd.R (Kd.int .i64) 2 w11 w.heap.size (fun _ => True) (.slice (some ⟨go9, 0, none⟩) x3_1.length co9) y145 := (by rw [hw, Ny145.out]; exact HP10.1); clear HP10; have n0_ := Aside0.mk (hp_); have n1_ := Aside0.mk ((by rw [hw]; exact below_set (HB.out) GB9.out : Below w.heap.size w w11)); clear HO_3; clear HB; have HO_3 := n0_; have HB := n1_; clear n0_ n1_; clear hg hw hp_))
        go_roundg k1
        case measure => have := HK1.out; omega
        case rel => exact ⟨(y145), (wrap64 (x4_1 + 1)), sZ, H', ⟨by have := HK1.out; omega⟩, ⟨Kd.rZ HO_3.out⟩, ⟨bZ⟩⟩
       ·rw [if_neg c8] at H
        exact absurd H (by simp)
      ·rw [if_neg c7] at H
       exact absurd H (by simp)
     ·rw [if_neg c6] at H
      have c6b0 : decide (x4_1 < (l0.length : Int)) = false := decide_eq_false c6
      clear c6
      obtain rfl := Option.some.inj H
      go_wp2
      go_ret
      exact ⟨_, eZ, Kd.rZ HO_3.out, bZ⟩
  ·rw [if_neg c3] at H
   exact absurd H (by simp)
 ·rw [if_neg c2] at H
  exact absurd H (by simp)
def laws_toPipe.f (a0_0 : ByteArray) (a0_1 : Int) (a0_2 : Int) (a0_3 : Int) (a0_4 : Int) (a0_5 : Int) : Option (ByteArray × Int × Int × Int × Int × Int) := some (a0_0, a0_1, a0_2, a0_3, a0_4, a0_5)
set_option maxHeartbeats 8000000 in
set_option maxRecDepth 100000 in
theorem laws_toPipe.calls (a0_0 : ByteArray) (a0_1 : Int) (a0_2 : Int) (a0_3 : Int) (a0_4 : Int) (a0_5 : Int) (r1 : ByteArray) (r2 : Int) (r3 : Int) (r4 : Int) (r5 : Int) (r6 : Int) (w : World) (h : laws_toPipe.f a0_0 a0_1 a0_2 a0_3 a0_4 a0_5 = some (r1, r2, r3, r4, r5, r6)) :
  Calls Try.prog 79 #[.agg #[.string a0_0, .int .i64 a0_1, .int .i64 a0_2, .int .i64 a0_3, .int .i64 a0_4, .int .i64 a0_5]] w fun e w' => e = .returned (.agg #[.string r1, .int .i64 r2, .int .i64 r3, .int .i64 r4, .int .i64 r5, .int .i64 r6]) ∧ Below w.heap.size w w' := by
 have hu136 := Try.underlying136
 have hu118 := Try.underlying118
 have HB := Aside0.mk (Below.refl w.heap.size w)
 have H : (some (a0_0, a0_1, a0_2, a0_3, a0_4, a0_5)) = some (r1, r2, r3, r4, r5, r6) := h
 clear h
 simp only [Option.some.injEq, Prod.mk.injEq] at H
 obtain ⟨rfl, rfl, rfl, rfl, rfl, rfl⟩ := H
 go_enter Try.func79, Try.ntmps79
 go_wp2_with (first | ((with_reducible refine gate_dst (N := 1) rfl ?_); refine boxZ 1 #[.string a0_0, .int .i64 a0_1, .int .i64 a0_2, .int .i64 a0_3, .int .i64 a0_4, .int .i64 a0_5] 136 rfl rfl ?_; intro gb146 hg w2 hbox hb; have n0_ := Aside0.mk (below_step bZ hb); have n1_ := Aside0.mk (hbox); have n2_ := Aside0.mk ((by rw [hg]; exact bsZ : w.heap.size ≤ gb146)); have n3_ := Aside0.mk ((by rw [hg]; exact bsZ : w.heap.size ≤ gb146)); clear HB; have HB := n0_; have BK146 := n1_; have GW146 := n2_; have GE146 := n3_; clear n0_ n1_ n2_ n3_; clear hb hbox hg) | ((with_reducible refine gate_dst (N := 2) rfl ?_); refine boxZ 2 #[.string (⟨#[]⟩ : ByteArray), .int .i64 0, .int .i64 0, .int .i64 0, .int .i64 0, .int .i64 0] 118 rfl rfl ?_; intro gb147 hg w3 hbox hb; have n0_ := Aside0.mk (blk_below (g := gb146) (o := .cells #[.string a0_0, .int .i64 a0_1, .int .i64 a0_2, .int .i64 a0_3, .int .i64 a0_4, .int .i64 a0_5] 136 (0, 0)) (kZ BK146.out) hb); have n1_ := Aside0.mk (below_step bZ hb); have n2_ := Aside0.mk (hbox); have n3_ := Aside0.mk ((by rw [hg]; exact bsZ : w.heap.size ≤ gb147)); have n4_ := Aside0.mk ((by rw [hg]; exact bsZ : w.heap.size ≤ gb147)); have n5_ := Aside0.mk ((by rw [hg]; exact Nat.ne_of_lt (blk_lt (g := gb146) (o := .cells #[.string a0_0, .int .i64 a0_1, .int .i64 a0_2, .int .i64 a0_3, .int .i64 a0_4, .int .i64 a0_5] 136 (0, 0)) (kZ BK146.out)) : gb146 ≠ gb147)); have n6_ := Aside0.mk ((by rw [hg]; exact Nat.ne_of_gt (blk_lt (g := gb146) (o := .cells #[.string a0_0, .int .i64 a0_1, .int .i64 a0_2, .int .i64 a0_3, .int .i64 a0_4, .int .i64 a0_5] 136 (0, 0)) (kZ BK146.out)) : gb147 ≠ gb146)); clear BK146; clear HB; have BK146 := n0_; have HB := n1_; have BK147 := n2_; have GW147 := n3_; have GE147 := n4_; have NB146_147 := n5_; have NB147_146 := n6_; clear n0_ n1_ n2_ n3_ n4_ n5_ n6_; clear hb hbox hg) | ((with_reducible refine gate_dst (N := 3) rfl ?_); refine boxZ 3 #[.string (⟨#[]⟩ : ByteArray), .int .i64 0, .int .i64 0, .int .i64 0, .int .i64 0, .int .i64 0] 118 rfl rfl ?_; intro gb148 hg w4 hbox hb; have n0_ := Aside0.mk (blk_below (g := gb146) (o := .cells #[.string a0_0, .int .i64 a0_1, .int .i64 a0_2, .int .i64 a0_3, .int .i64 a0_4, .int .i64 a0_5] 136 (0, 0)) (kZ BK146.out) hb); have n1_ := Aside0.mk (blk_below (g := gb147) (o := .cells #[.string (⟨#[]⟩ : ByteArray), .int .i64 0, .int .i64 0, .int .i64 0, .int .i64 0, .int .i64 0] 118 (0, 0)) (kZ BK147.out) hb); have n2_ := Aside0.mk (below_step bZ hb); have n3_ := Aside0.mk (hbox); have n4_ := Aside0.mk ((by rw [hg]; exact bsZ : w.heap.size ≤ gb148)); have n5_ := Aside0.mk ((by rw [hg]; exact bsZ : w.heap.size ≤ gb148)); have n6_ := Aside0.mk ((by rw [hg]; exact Nat.ne_of_lt (blk_lt (g := gb146) (o := .cells #[.string a0_0, .int .i64 a0_1, .int .i64 a0_2, .int .i64 a0_3, .int .i64 a0_4, .int .i64 a0_5] 136 (0, 0)) (kZ BK146.out)) : gb146 ≠ gb148)); have n7_ := Aside0.mk ((by rw [hg]; exact Nat.ne_of_gt (blk_lt (g := gb146) (o := .cells #[.string a0_0, .int .i64 a0_1, .int .i64 a0_2, .int .i64 a0_3, .int .i64 a0_4, .int .i64 a0_5] 136 (0, 0)) (kZ BK146.out)) : gb148 ≠ gb146)); have n8_ := Aside0.mk ((by rw [hg]; exact Nat.ne_of_lt (blk_lt (g := gb147) (o := .cells #[.string (⟨#[]⟩ : ByteArray), .int .i64 0, .int .i64 0, .int .i64 0, .int .i64 0, .int .i64 0] 118 (0, 0)) (kZ BK147.out)) : gb147 ≠ gb148)); have n9_ := Aside0.mk ((by rw [hg]; exact Nat.ne_of_gt (blk_lt (g := gb147) (o := .cells #[.string (⟨#[]⟩ : ByteArray), .int .i64 0, .int .i64 0, .int .i64 0, .int .i64 0, .int .i64 0] 118 (0, 0)) (kZ BK147.out)) : gb148 ≠ gb147)); clear BK146; clear BK147; clear HB; have BK146 := n0_; have BK147 := n1_; have HB := n2_; have BK148 := n3_; have GW148 := n4_; have GE148 := n5_; have NB146_148 := n6_; have NB148_146 := n7_; have NB147_148 := n8_; have NB148_147 := n9_; clear n0_ n1_ n2_ n3_ n4_ n5_ n6_ n7_ n8_ n9_; clear hb hbox hg; have hnb5 := NB146_147.out; have hnc5 := NB147_146.out; have hnb6 := NB146_148.out; have hnc6 := NB148_146.out; have hcz7_0 := bc0 BK146.out; have hcz7_1 := bc1 BK146.out; have hcz7_2 := bc2 BK146.out; have hcz7_3 := bc3 BK146.out; have hcz7_4 := bc4 BK146.out; have hcz7_5 := bc5 BK146.out; have hfz7_0 := blk_frozen BK146.out 0; have hfz7_1 := blk_frozen BK146.out 1; have hfz7_2 := blk_frozen BK146.out 2; have hfz7_3 := blk_frozen BK146.out 3; have hfz7_4 := blk_frozen BK146.out 4; have hfz7_5 := blk_frozen BK146.out 5; have hnb8 := NB148_147.out; have hnc8 := NB147_148.out; have hcz9_0 := bc0 BK148.out; have hcz9_1 := bc1 BK148.out; have hcz9_2 := bc2 BK148.out; have hcz9_3 := bc3 BK148.out; have hcz9_4 := bc4 BK148.out; have hcz9_5 := bc5 BK148.out; have hfz9_0 := blk_frozen BK148.out 0; have hfz9_1 := blk_frozen BK148.out 1; have hfz9_2 := blk_frozen BK148.out 2; have hfz9_3 := blk_frozen BK148.out 3; have hfz9_4 := blk_frozen BK148.out 4; have hfz9_5 := blk_frozen BK148.out 5; have hcz10_0 := bc0 BK147.out; have hcz10_1 := bc1 BK147.out; have hcz10_2 := bc2 BK147.out; have hcz10_3 := bc3 BK147.out; have hcz10_4 := bc4 BK147.out; have hcz10_5 := bc5 BK147.out; have hfz10_0 := blk_frozen BK147.out 0; have hfz10_1 := blk_frozen BK147.out 1; have hfz10_2 := blk_frozen BK147.out 2; have hfz10_3 := blk_frozen BK147.out 3; have hfz10_4 := blk_frozen BK147.out 4; have hfz10_5 := blk_frozen BK147.out 5))
 refine bodyPost_ret (results_cell_row rfl _ _ gb147 118 #[.string a0_0, .int .i64 a0_1, .int .i64 a0_2, .int .i64 a0_3, .int .i64 a0_4, .int .i64 a0_5] (0, 0) _ rfl (by (with_reducible repeat (first | refine blk_drewN ?_ _ | refine blk_drew ?_ | refine blk_alloc ?_ _)); refine blk_put (cs := #[.string a0_0, .int .i64 a0_1, .int .i64 a0_2, .int .i64 a0_3, .int .i64 a0_4, .int .i64 0]) ?_ 5 _ rfl; (with_reducible repeat (first | refine blk_drewN ?_ _ | refine blk_drew ?_ | refine blk_alloc ?_ _)); refine blk_put (cs := #[.string a0_0, .int .i64 a0_1, .int .i64 a0_2, .int .i64 a0_3, .int .i64 0, .int .i64 0]) ?_ 4 _ rfl; (with_reducible repeat (first | refine blk_drewN ?_ _ | refine blk_drew ?_ | refine blk_alloc ?_ _)); refine blk_put (cs := #[.string a0_0, .int .i64 a0_1, .int .i64 a0_2, .int .i64 0, .int .i64 0, .int .i64 0]) ?_ 3 _ rfl; (with_reducible repeat (first | refine blk_drewN ?_ _ | refine blk_drew ?_ | refine blk_alloc ?_ _)); refine blk_put (cs := #[.string a0_0, .int .i64 a0_1, .int .i64 0, .int .i64 0, .int .i64 0, .int .i64 0]) ?_ 2 _ rfl; (with_reducible repeat (first | refine blk_drewN ?_ _ | refine blk_drew ?_ | refine blk_alloc ?_ _)); refine blk_put (cs := #[.string a0_0, .int .i64 0, .int .i64 0, .int .i64 0, .int .i64 0, .int .i64 0]) ?_ 1 _ rfl; (with_reducible repeat (first | refine blk_drewN ?_ _ | refine blk_drew ?_ | refine blk_alloc ?_ _)); refine blk_put (cs := #[.string (⟨#[]⟩ : ByteArray), .int .i64 0, .int .i64 0, .int .i64 0, .int .i64 0, .int .i64 0]) ?_ 0 _ rfl; (with_reducible repeat (first | refine blk_drewN ?_ _ | refine blk_drew ?_ | refine blk_alloc ?_ _)); refine blk_far ?_ NB147_148.out _; (with_reducible repeat (first | refine blk_drewN ?_ _ | refine blk_drew ?_ | refine blk_alloc ?_ _)); refine blk_far ?_ NB147_148.out _; (with_reducible repeat (first | refine blk_drewN ?_ _ | refine blk_drew ?_ | refine blk_alloc ?_ _)); refine blk_far ?_ NB147_148.out _; (with_reducible repeat (first | refine blk_drewN ?_ _ | refine blk_drew ?_ | refine blk_alloc ?_ _)); refine blk_far ?_ NB147_148.out _; (with_reducible repeat (first | refine blk_drewN ?_ _ | refine blk_drew ?_ | refine blk_alloc ?_ _)); refine blk_far ?_ NB147_148.out _; (with_reducible repeat (first | refine blk_drewN ?_ _ | refine blk_drew ?_ | refine blk_alloc ?_ _)); refine blk_far ?_ NB147_148.out _; (with_reducible repeat (first | refine blk_drewN ?_ _ | refine blk_drew ?_ | refine blk_alloc ?_ _)); exact BK147.out) Try.underlying118 rfl (by kernel_rfl)) rfl ?_
 exact ⟨eZ, bZ⟩
end Go.Proofs.Ytmfhncjkfhdlcaa.XM
end
