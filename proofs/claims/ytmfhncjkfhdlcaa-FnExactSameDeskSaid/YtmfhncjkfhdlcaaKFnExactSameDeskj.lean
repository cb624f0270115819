/- The law FnExactSameDesk: part 9 of its texts, joined (wip/pack.py). -/
import Derived.Test.YtmfhncjkfhdlcaaKFnExactSameDeska
import Derived.Test.YtmfhncjkfhdlcaaKFnExactSameDeskb
import Derived.Test.YtmfhncjkfhdlcaaKFnExactSameDeskc
import Derived.Test.YtmfhncjkfhdlcaaKFnExactSameDeskd
import Derived.Test.YtmfhncjkfhdlcaaKFnExactSameDeske
import Derived.Test.YtmfhncjkfhdlcaaKFnExactSameDeskf
import Derived.Test.YtmfhncjkfhdlcaaKFnExactSameDeskg
import Derived.Test.YtmfhncjkfhdlcaaKFnExactSameDeskh
import Derived.Test.YtmfhncjkfhdlcaaKFnExactSameDeski

section
namespace Go.Proofs.Ytmfhncjkfhdlcaa.XM
open Go.RowKit Go.Proofs.YtmfhncjkfhdlcaaW.PrintWords Go.Proofs.YtmfhncjkfhdlcaaW.PrintLast Go.Proofs.YtmfhncjkfhdlcaaW.PrintMore
attribute [local go_sem] run_eql_slice_nil binOp_string_gtr' binOp_string_leq' binOp_string_geq' max2_int min2_int max_two min_two max_three min_three max_four min_four   -- for this text's walks alone
set_option linter.unusedVariables false
set_option linter.unusedSimpArgs false
def laws_eqDuty.f (a0_0 : ByteArray) (a0_1 : Int) (a0_2 : Int) (a0_3 : Bool) (a1_0 : ByteArray) (a1_1 : Int) (a1_2 : Int) (a1_3 : Bool) : Option (Bool) := if a0_0.toList = a1_0.toList then (if a0_1 = a1_1 then (if a0_2 = a1_2 then (if (a0_3 != a1_3) = true then (some false) else (some true)) else (some false)) else (some false)) else (some false)
set_option maxHeartbeats 8000000 in
set_option maxRecDepth 100000 in
theorem laws_eqDuty.calls (a0_0 : ByteArray) (a0_1 : Int) (a0_2 : Int) (a0_3 : Bool) (a1_0 : ByteArray) (a1_1 : Int) (a1_2 : Int) (a1_3 : Bool) (r : Bool) (w : World) (h : laws_eqDuty.f a0_0 a0_1 a0_2 a0_3 a1_0 a1_1 a1_2 a1_3 = some r) :
  Calls Try.prog 76 #[.agg #[.string a0_0, .int .i64 a0_1, .int .i64 a0_2, .bool a0_3], .agg #[.string a1_0, .int .i64 a1_1, .int .i64 a1_2, .bool a1_3]] w fun e w' => e = .returned (.bool r) ∧ Below w.heap.size w w' := by
 have hu81 := Try.underlying81
 have HB := Aside0.mk (Below.refl w.heap.size w)
 have H : (if a0_0.toList = a1_0.toList then (if a0_1 = a1_1 then (if a0_2 = a1_2 then (if (a0_3 != a1_3) = true then (some false) else (some true)) else (some false)) else (some false)) else (some false)) = some r := h
 clear h
 by_cases c3 : a0_0.toList = a1_0.toList
 ·rw [if_pos c3] at H
  have c3b0 : (a0_0.toList == a1_0.toList) = true := beq_iff_eq.mpr c3
  have c3b1 : (a0_0.toList != a1_0.toList) = false := bne_eq_false_iff_eq.mpr c3
  clear c3
  by_cases c4 : a0_1 = a1_1
  ·rw [if_pos c4] at H
   have c4b0 : (a0_1 == a1_1) = true := beq_iff_eq.mpr c4
   have c4b1 : (a0_1 != a1_1) = false := bne_eq_false_iff_eq.mpr c4
   clear c4
   by_cases c5 : a0_2 = a1_2
   ·rw [if_pos c5] at H
    have c5b0 : (a0_2 == a1_2) = true := beq_iff_eq.mpr c5
    have c5b1 : (a0_2 != a1_2) = false := bne_eq_false_iff_eq.mpr c5
    clear c5
    by_cases c6 : (a0_3 != a1_3) = true
    ·rw [if_pos c6] at H
     have c6b0 : (a0_3 != a1_3) = true := c6
     (try (have c6b1 : decide (a0_3 = a1_3) = false := by simpa using c6))
     (try (have c6b2 : (a0_3 == a1_3) = false := by simpa using c6))
     (try (have c6b3 : ¬ (a0_3 = a1_3) := by simpa using c6))
     clear c6
     obtain rfl := Option.some.inj H
     go_enter Try.func76, Try.ntmps76
     go_wp2_with (first | ((with_reducible refine gate_dst (N := 2) rfl ?_); refine boxZ 2 #[.string a0_0, .int .i64 a0_1, .int .i64 a0_2, .bool a0_3] 81 rfl rfl ?_; intro gb380 hg w7 hbox hb; have n0_ := Aside0.mk (below_step bZ hb); have n1_ := Aside0.mk (hbox); have n2_ := Aside0.mk ((by rw [hg]; exact bsZ : w.heap.size ≤ gb380)); have n3_ := Aside0.mk ((by rw [hg]; exact bsZ : w.heap.size ≤ gb380)); clear HB; have HB := n0_; have BK380 := n1_; have GW380 := n2_; have GE380 := n3_; clear n0_ n1_ n2_ n3_; clear hb hbox hg) | ((with_reducible refine gate_dst (N := 3) rfl ?_); refine boxZ 3 #[.string a1_0, .int .i64 a1_1, .int .i64 a1_2, .bool a1_3] 81 rfl rfl ?_; intro gb381 hg w8 hbox hb; have n0_ := Aside0.mk (blk_below (g := gb380) (o := .cells #[.string a0_0, .int .i64 a0_1, .int .i64 a0_2, .bool a0_3] 81 (0, 0)) (kZ BK380.out) hb); have n1_ := Aside0.mk (below_step bZ hb); have n2_ := Aside0.mk (hbox); have n3_ := Aside0.mk ((by rw [hg]; exact bsZ : w.heap.size ≤ gb381)); have n4_ := Aside0.mk ((by rw [hg]; exact bsZ : w.heap.size ≤ gb381)); have n5_ := Aside0.mk ((by rw [hg]; exact Nat.ne_of_lt (blk_lt (g := gb380) (o := .cells #[.string a0_0, .int .i64 a0_1, .int .i64 a0_2, .bool a0_3] 81 (0, 0)) (kZ BK380.out)) : gb380 ≠ gb381)); have n6_ := Aside0.mk ((by rw [hg]; exact Nat.ne_of_gt (blk_lt (g := gb380) (o := .cells #[.string a0_0, .int .i64 a0_1, .int .i64 a0_2, .bool a0_3] 81 (0, 0)) (kZ BK380.out)) : gb381 ≠ gb380)); clear BK380; clear HB; have BK380 := n0_; have HB := n1_; have BK381 := n2_; have GW381 := n3_; have GE381 := n4_; have NB380_381 := n5_; have NB381_380 := n6_; clear n0_ n1_ n2_ n3_ n4_ n5_ n6_; clear hb hbox hg; have hnb9 := NB380_381.out; have hnc9 := NB381_380.out; have hcz10_0 := bc0 BK380.out; have hcz10_1 := bc1 BK380.out; have hcz10_2 := bc2 BK380.out; have hcz10_3 := bc3 BK380.out; have hfz10_0 := blk_frozen BK380.out 0; have hfz10_1 := blk_frozen BK380.out 1; have hfz10_2 := blk_frozen BK380.out 2; have hfz10_3 := blk_frozen BK380.out 3; have hcz11_0 := bc0 BK381.out; have hcz11_1 := bc1 BK381.out; have hcz11_2 := bc2 BK381.out; have hcz11_3 := bc3 BK381.out; have hfz11_0 := blk_frozen BK381.out 0; have hfz11_1 := blk_frozen BK381.out 1; have hfz11_2 := blk_frozen BK381.out 2; have hfz11_3 := blk_frozen BK381.out 3))
     go_ret
     exact ⟨eZ, bZ⟩
    ·rw [if_neg c6] at H
     have c6b0 : (a0_3 != a1_3) = false := by simpa using c6
     (try (have c6b1 : decide (a0_3 = a1_3) = true := by simpa using c6))
     (try (have c6b2 : (a0_3 == a1_3) = true := by simpa using c6))
     clear c6
     obtain rfl := Option.some.inj H
     go_enter Try.func76, Try.ntmps76
     go_wp2_with (first | ((with_reducible refine gate_dst (N := 2) rfl ?_); refine boxZ 2 #[.string a0_0, .int .i64 a0_1, .int .i64 a0_2, .bool a0_3] 81 rfl rfl ?_; intro gb380 hg w12 hbox hb; have n0_ := Aside0.mk (below_step bZ hb); have n1_ := Aside0.mk (hbox); have n2_ := Aside0.mk ((by rw [hg]; exact bsZ : w.heap.size ≤ gb380)); have n3_ := Aside0.mk ((by rw [hg]; exact bsZ : w.heap.size ≤ gb380)); clear HB; have HB := n0_; have BK380 := n1_; have GW380 := n2_; have GE380 := n3_; clear n0_ n1_ n2_ n3_; clear hb hbox hg) | ((with_reducible refine gate_dst (N := 3) rfl ?_); refine boxZ 3 #[.string a1_0, .int .i64 a1_1, .int .i64 a1_2, .bool a1_3] 81 rfl rfl ?_; intro gb381 hg w13 hbox hb; have n0_ := Aside0.mk (blk_below (g := gb380) (o := .cells #[.string a0_0, .int .i64 a0_1, .int .i64 a0_2, .bool a0_3] 81 (0, 0)) (kZ BK380.out) hb); have n1_ := Aside0.mk (below_step bZ hb); have n2_ := Aside0.mk (hbox); have n3_ := Aside0.mk ((by rw [hg]; exact bsZ : w.heap.size ≤ gb381)); have n4_ := Aside0.mk ((by rw [hg]; exact bsZ : w.heap.size ≤ gb381)); have n5_ := Aside0.mk ((by rw [hg]; exact Nat.ne_of_lt (blk_lt (g := gb380) (o := .cells #[.string a0_0, .int .i64 a0_1, .int .i64 a0_2, .bool a0_3] 81 (0, 0)) (kZ BK380.out)) : gb380 ≠ gb381)); have n6_ := Aside0.mk ((by rw [hg]; exact Nat.ne_of_gt (blk_lt (g := gb380) (o := .cells #[.string a0_0, .int .i64 a0_1, .int .i64 a0_2, .bool a0_3] 81 (0, 0)) (kZ BK380.out)) : gb381 ≠ gb380)); clear BK380; clear HB; have BK380 := n0_; have HB := n1_; have BK381 := n2_; have GW381 := n3_; have GE381 := n4_; have NB380_381 := n5_; have NB381_380 := n6_; clear n0_ n1_ n2_ n3_ n4_ n5_ n6_; clear hb hbox hg; have hnb14 := NB380_381.out; have hnc14 := NB381_380.out; have hcz15_0 := bc0 BK380.out; have hcz15_1 := bc1 BK380.out; have hcz15_2 := bc2 BK380.out; have hcz15_3 := bc3 BK380.out; have hfz15_0 := blk_frozen BK380.out 0; have hfz15_1 := blk_frozen BK380.out 1; have hfz15_2 := blk_frozen BK380.out 2; have hfz15_3 := blk_frozen BK380.out 3; have hcz16_0 := bc0 BK381.out; have hcz16_1 := bc1 BK381.out; have hcz16_2 := bc2 BK381.out; have hcz16_3 := bc3 BK381.out; have hfz16_0 := blk_frozen BK381.out 0; have hfz16_1 := blk_frozen BK381.out 1; have hfz16_2 := blk_frozen BK381.out 2; have hfz16_3 := blk_frozen BK381.out 3))
     go_ret
     exact ⟨eZ, bZ⟩
   ·rw [if_neg c5] at H
    have c5b0 : (a0_2 == a1_2) = false := beq_eq_false_iff_ne.mpr c5
    have c5b1 : (a0_2 != a1_2) = true := bne_iff_ne.mpr c5
    obtain rfl := Option.some.inj H
    go_enter Try.func76, Try.ntmps76
    go_wp2_with (first | ((with_reducible refine gate_dst (N := 2) rfl ?_); refine boxZ 2 #[.string a0_0, .int .i64 a0_1, .int .i64 a0_2, .bool a0_3] 81 rfl rfl ?_; intro gb380 hg w17 hbox hb; have n0_ := Aside0.mk (below_step bZ hb); have n1_ := Aside0.mk (hbox); have n2_ := Aside0.mk ((by rw [hg]; exact bsZ : w.heap.size ≤ gb380)); have n3_ := Aside0.mk ((by rw [hg]; exact bsZ : w.heap.size ≤ gb380)); clear HB; have HB := n0_; have BK380 := n1_; have GW380 := n2_; have GE380 := n3_; clear n0_ n1_ n2_ n3_; clear hb hbox hg) | ((with_reducible refine gate_dst (N := 3) rfl ?_); refine boxZ 3 #[.string a1_0, .int .i64 a1_1, .int .i64 a1_2, .bool a1_3] 81 rfl rfl ?_; intro gb381 hg w18 hbox hb; have n0_ := Aside0.mk (blk_below (g := gb380) (o := .cells #[.string a0_0, .int .i64 a0_1, .int .i64 a0_2, .bool a0_3] 81 (0, 0)) (kZ BK380.out) hb); have n1_ := Aside0.mk (below_step bZ hb); have n2_ := Aside0.mk (hbox); have n3_ := Aside0.mk ((by rw [hg]; exact bsZ : w.heap.size ≤ gb381)); have n4_ := Aside0.mk ((by rw [hg]; exact bsZ : w.heap.size ≤ gb381)); have n5_ := Aside0.mk ((by rw [hg]; exact Nat.ne_of_lt (blk_lt (g := gb380) (o := .cells #[.string a0_0, .int .i64 a0_1, .int .i64 a0_2, .bool a0_3] 81 (0, 0)) (kZ BK380.out)) : gb380 ≠ gb381)); have n6_ := Aside0.mk ((by rw [hg]; exact Nat.ne_of_gt (blk_lt (g := gb380) (o := .cells #[.string a0_0, .int .i64 a0_1, .int .i64 a0_2, .bool a0_3] 81 (0, 0)) (kZ BK380.out)) : gb381 ≠ gb380)); clear BK380; clear HB; have BK380 := n0_; have HB := n1_; have BK381 := n2_; have GW381 := n3_; have GE381 := n4_; have NB380_381 := n5_; have NB381_380 := n6_; clear n0_ n1_ n2_ n3_ n4_ n5_ n6_; clear hb hbox hg; have hnb19 := NB380_381.out; have hnc19 := NB381_380.out; have hcz20_0 := bc0 BK380.out; have hcz20_1 := bc1 BK380.out; have hcz20_2 := bc2 BK380.out; have hcz20_3 := bc3 BK380.out; have hfz20_0 := blk_frozen BK380.out 0; have hfz20_1 := blk_frozen BK380.out 1; have hfz20_2 := blk_frozen BK380.out 2; have hfz20_3 := blk_frozen BK380.out 3; have hcz21_0 := bc0 BK381.out; have hcz21_1 := bc1 BK381.out; have hcz21_2 := bc2 BK381.out; have hcz21_3 := bc3 BK381.out; have hfz21_0 := blk_frozen BK381.out 0; have hfz21_1 := blk_frozen BK381.out 1; have hfz21_2 := blk_frozen BK381.out 2; have hfz21_3 := blk_frozen BK381.out 3))
    go_ret
    exact ⟨eZ, bZ⟩
  ·rw [if_neg c4] at H
   have c4b0 : (a0_1 == a1_1) = false := beq_eq_false_iff_ne.mpr c4
   have c4b1 : (a0_1 != a1_1) = true := bne_iff_ne.mpr c4
   obtain rfl := Option.some.inj H
   go_enter Try.func76, Try.ntmps76
   go_wp2_with (first | ((with_reducible refine gate_dst (N := 2) rfl ?_); refine boxZ 2 #[.string a0_0, .int .i64 a0_1, .int .i64 a0_2, .bool a0_3] 81 rfl rfl ?_; intro gb380 hg w22 hbox hb; have n0_ := Aside0.mk (below_step bZ hb); have n1_ := Aside0.mk (hbox); have n2_ := Aside0.mk ((by rw [hg]; exact bsZ : w.heap.size ≤ gb380)); have n3_ := Aside0.mk ((by rw [hg]; exact bsZ : w.heap.size ≤ gb380)); clear HB; have HB := n0_; have BK380 := n1_; have GW380 := n2_; have GE380 := n3_; clear n0_ n1_ n2_ n3_; clear hb hbox hg) | ((with_reducible refine gate_dst (N := 3) rfl ?_); refine boxZ 3 #[.string a1_0, .int .i64 a1_1, .int .i64 a1_2, .bool a1_3] 81 rfl rfl ?_; intro gb381 hg w23 hbox hb; have n0_ := Aside0.mk (blk_below (g := gb380) (o := .cells #[.string a0_0, .int .i64 a0_1, .int .i64 a0_2, .bool a0_3] 81 (0, 0)) (kZ BK380.out) hb); have n1_ := Aside0.mk (below_step bZ hb); have n2_ := Aside0.mk (hbox); have n3_ := Aside0.mk ((by rw [hg]; exact bsZ : w.heap.size ≤ gb381)); have n4_ := Aside0.mk ((by rw [hg]; exact bsZ : w.heap.size ≤ gb381)); have n5_ := Aside0.mk ((by rw [hg]; exact Nat.ne_of_lt (blk_lt (g := gb380) (o := .cells #[.string a0_0, .int .i64 a0_1, .int .i64 a0_2, .bool a0_3] 81 (0, 0)) (kZ BK380.out)) : gb380 ≠ gb381)); have n6_ := Aside0.mk ((by rw [hg]; exact Nat.ne_of_gt (blk_lt (g := gb380) (o := .cells #[.string a0_0, .int .i64 a0_1, .int .i64 a0_2, .bool a0_3] 81 (0, 0)) (kZ BK380.out)) : gb381 ≠ gb380)); clear BK380; clear HB; have BK380 := n0_; have HB := n1_; have BK381 := n2_; have GW381 := n3_; have GE381 := n4_; have NB380_381 := n5_; have NB381_380 := n6_; clear n0_ n1_ n2_ n3_ n4_ n5_ n6_; clear hb hbox hg; have hnb24 := NB380_381.out; have hnc24 := NB381_380.out; have hcz25_0 := bc0 BK380.out; have hcz25_1 := bc1 BK380.out; have hcz25_2 := bc2 BK380.out; have hcz25_3 := bc3 BK380.out; have hfz25_0 := blk_frozen BK380.out 0; have hfz25_1 := blk_frozen BK380.out 1; have hfz25_2 := blk_frozen BK380.out 2; have hfz25_3 := blk_frozen BK380.out 3; have hcz26_0 := bc0 BK381.out; have hcz26_1 := bc1 BK381.out; have hcz26_2 := bc2 BK381.out; have hcz26_3 := bc3 BK381.out; have hfz26_0 := blk_frozen BK381.out 0; have hfz26_1 := blk_frozen BK381.out 1; have hfz26_2 := blk_frozen BK381.out 2; have hfz26_3 := blk_frozen BK381.out 3))
   go_ret
   exact ⟨eZ, bZ⟩
 ·rw [if_neg c3] at H
  have c3b0 : (a0_0.toList == a1_0.toList) = false := beq_eq_false_iff_ne.mpr c3
  have c3b1 : (a0_0.toList != a1_0.toList) = true := bne_iff_ne.mpr c3
  obtain rfl := Option.some.inj H
  go_enter Try.func76, Try.ntmps76
  go_wp2_with (first | ((with_reducible refine gate_dst (N := 2) rfl ?_); refine boxZ 2 #[.string a0_0, .int .i64 a0_1, .int .i64 a0_2, .bool a0_3] 81 rfl rfl ?_; intro gb380 hg w27 hbox hb; have n0_ := Aside0.mk (below_step bZ hb); have n1_ := Aside0.mk (hbox); have n2_ := Aside0.mk ((by rw [hg]; exact bsZ : w.heap.size ≤ gb380)); have n3_ := Aside0.mk ((by rw [hg]; exact bsZ : w.heap.size ≤ gb380)); clear HB; have HB := n0_; have BK380 := n1_; have GW380 := n2_; have GE380 := n3_; clear n0_ n1_ n2_ n3_; clear hb hbox hg) | ((with_reducible refine gate_dst (N := 3) rfl ?_); refine boxZ 3 #[.string a1_0, .int .i64 a1_1, .int .i64 a1_2, .bool a1_3] 81 rfl rfl ?_; intro gb381 hg w28 hbox hb; have n0_ := Aside0.mk (blk_below (g := gb380) (o := .cells #[.string a0_0, .int .i64 a0_1, .int .i64 a0_2, .bool a0_3] 81 (0, 0)) (kZ BK380.out) hb); have n1_ := Aside0.mk (below_step bZ hb); have n2_ := Aside0.mk (hbox); have n3_ := Aside0.mk ((by rw [hg]; exact bsZ : w.heap.size ≤ gb381)); have n4_ := Aside0.mk ((by rw [hg]; exact bsZ : w.heap.size ≤ gb381)); have n5_ := Aside0.mk ((by rw [hg]; exact Nat.ne_of_lt (blk_lt (g := gb380) (o := .cells #[.string a0_0, .int .i64 a0_1, .int .i64 a0_2, .bool a0_3] 81 (0, 0)) (kZ BK380.out)) : gb380 ≠ gb381)); have n6_ := Aside0.mk ((by rw [hg]; exact Nat.ne_of_gt (blk_lt (g := gb380) (o := .cells #[.string a0_0, .int .i64 a0_1, .int .i64 a0_2, .bool a0_3] 81 (0, 0)) (kZ BK380.out)) : gb381 ≠ gb380)); clear BK380; clear HB; have BK380 := n0_; have HB := n1_; have BK381 := n2_; have GW381 := n3_; have GE381 := n4_; have NB380_381 := n5_; have NB381_380 := n6_; clear n0_ n1_ n2_ n3_ n4_ n5_ n6_; clear hb hbox hg; have hnb29 := NB380_381.out; have hnc29 := NB381_380.out; have hcz30_0 := bc0 BK380.out; have hcz30_1 := bc1 BK380.out; have hcz30_2 := bc2 BK380.out; have hcz30_3 := bc3 BK380.out; have hfz30_0 := blk_frozen BK380.out 0; have hfz30_1 := blk_frozen BK380.out 1; have hfz30_2 := blk_frozen BK380.out 2; have hfz30_3 := blk_frozen BK380.out 3; have hcz31_0 := bc0 BK381.out; have hcz31_1 := bc1 BK381.out; have hcz31_2 := bc2 BK381.out; have hcz31_3 := bc3 BK381.out; have hfz31_0 := blk_frozen BK381.out 0; have hfz31_1 := blk_frozen BK381.out 1; have hfz31_2 := blk_frozen BK381.out 2; have hfz31_3 := blk_frozen BK381.out 3))
  go_ret
  exact ⟨eZ, bZ⟩
end Go.Proofs.Ytmfhncjkfhdlcaa.XM
end

section
namespace Go.Proofs.Ytmfhncjkfhdlcaa.XM
open Go.RowKit Go.Proofs.YtmfhncjkfhdlcaaW.PrintWords Go.Proofs.YtmfhncjkfhdlcaaW.PrintLast Go.Proofs.YtmfhncjkfhdlcaaW.PrintMore
attribute [local go_sem] run_eql_slice_nil binOp_string_gtr' binOp_string_leq' binOp_string_geq' max2_int min2_int max_two min_two max_three min_three max_four min_four   -- for this text's walks alone
set_option linter.unusedVariables false
set_option linter.unusedSimpArgs false
def laws_eqDutyS.l0 : Nat → List (S81) → List (S81) → Int → Option (Bool)
 | 0, _, _, _ => none
 | k + 1, x0, x1, x5 => if x5 < (x0.length : Int) then (if 0 ≤ x5 then (if x5 < (x1.length : Int) then ((laws_eqDuty.f ((rd_T81 x0 x5).f0) ((rd_T81 x0 x5).f1) ((rd_T81 x0 x5).f2) ((rd_T81 x0 x5).f3) ((rd_T81 x1 x5).f0) ((rd_T81 x1 x5).f1) ((rd_T81 x1 x5).f2) ((rd_T81 x1 x5).f3)).bind fun t384 => (if t384 = true then (laws_eqDutyS.l0 k x0 x1 (wrap64 (x5 + 1))) else (some false))) else (none)) else (none)) else (some true)
def laws_eqDutyS.f (k : Nat) (l0 : List (S81)) (l1 : List (S81)) : Option (Bool) := if (l0.length : Int) = (l1.length : Int) then (laws_eqDutyS.l0 k l0 l1 0) else (some false)
def laws_eqDutyS.T6 : Bool × List (List Nat × List Nat) := (true, [([], []), ([], []), ([0, 1], [0, 1]), ([2], [2]), ([], []), ([], []), ([4, 5], [4, 5]), ([6], [6]), ([3, 7], [3, 7]), ([8], [8])])
def laws_eqDutyS.B6 : List Nat := [0, 0, 3, 7, 0, 0, 48, 112, 255, 511]
theorem laws_eqDutyS.tab6 : rtab .any (opsOf Try.f50 6) = laws_eqDutyS.T6 := by kernel_rfl
theorem laws_eqDutyS.bits6 : waitsOk laws_eqDutyS.T6.2 laws_eqDutyS.B6 = true := by kernel_rfl
set_option maxHeartbeats 8000000 in
set_option maxRecDepth 100000 in
theorem laws_eqDutyS.calls (k : Nat) (A0 : Option Addr) (c0 : Nat) (l0 : List (S81)) (A1 : Option Addr) (c1 : Nat) (l1 : List (S81)) (r : Bool) (w : World) (hr0 : Kd.C k81 w A0 l0.length l0) (hc0 : l0.length ≤ c0) (hr1 : Kd.C k81 w A1 l1.length l1) (hc1 : l1.length ≤ c1) (h : laws_eqDutyS.f k l0 l1 = some r) :
  Calls Try.prog 50 #[.slice A0 l0.length c0, .slice A1 l1.length c1] w fun e w' => e = .returned (.bool r) ∧ Below w.heap.size w w' := by
 have hu81 := Try.underlying81
 have HR0 := Aside0.mk hr0
 have HC0 := Aside0.mk hc0
 clear hr0 hc0
 have HR1 := Aside0.mk hr1
 have HC1 := Aside0.mk hc1
 clear hr1 hc1
 have HB := Aside0.mk (Below.refl w.heap.size w)
 have H : (if (l0.length : Int) = (l1.length : Int) then (laws_eqDutyS.l0 k l0 l1 0) else (some false)) = some r := h
 clear h
 by_cases c3 : (l0.length : Int) = (l1.length : Int)
 ·rw [if_pos c3] at H
  have c3b0 : ((l0.length : Int) == (l1.length : Int)) = true := beq_iff_eq.mpr c3
  have c3b1 : ((l0.length : Int) != (l1.length : Int)) = false := bne_eq_false_iff_eq.mpr c3
  have c3b2 : (l0.length == l1.length) = true := by first | simpa using c3 | (simp at c3 ⊢; omega)
  clear c3
  have H' := Aside0.mk H
  clear H
  go_enter Try.func50, Try.ntmps50
  go_wp2
  go_loopg [5] k (fun kq v5 w' => ∃ (x5_1 : Int), v5 = .int .i64 x5_1 ∧ Aside0 (laws_eqDutyS.l0 kq l0 l1 x5_1 = some r) ∧ Aside0 (kq ≤ k) ∧ Aside0 (Below w.heap.size w w'))
  case atStart => exact ⟨(0), sZ, H', ⟨Nat.le_refl _⟩, ⟨bZ⟩⟩
  case round =>
   clear H'; (try clear c1); (try clear p2); (try clear c3); (try clear c3b0); (try clear c3b1); (try clear c3b2)
   obtain ⟨x5_1, rfl, HA, HK1, HB⟩ := hrel
   cases gk with
   | zero => exact absurd HA.out (by simp [laws_eqDutyS.l0])
   | succ k1 =>
    have H := HA.out
    clear HA
    simp only [laws_eqDutyS.l0] at H
    by_cases c4 : x5_1 < (l0.length : Int)
    ·rw [if_pos c4] at H
     have c4b0 : decide (x5_1 < (l0.length : Int)) = true := decide_eq_true c4
     clear c4
     by_cases c5 : 0 ≤ x5_1
     ·rw [if_pos c5] at H
      have c5b0 : decide (0 ≤ x5_1) = true := decide_eq_true c5
      clear c5
      by_cases c6 : x5_1 < (l1.length : Int)
      ·rw [if_pos c6] at H
       have c6b0 : decide (x5_1 < (l1.length : Int)) = true := decide_eq_true c6
       clear c6
       replace H := Option.bind_eq_some_iff.mp H
       obtain ⟨t384, A70, H⟩ := H
       replace H : (if t384 = true then (laws_eqDutyS.l0 k1 l0 l1 (wrap64 (x5_1 + 1))) else (some false)) = some r := H
       have A7 := Aside0.mk A70
       clear A70
       by_cases c8 : t384 = true
       ·subst c8
        have H1 : (laws_eqDutyS.l0 k1 l0 l1 (wrap64 (x5_1 + 1))) = some r := by rw [if_pos rfl] at H; exact H
        clear H
        have H := H1
        clear H1
        have H' := Aside0.mk H
        clear H
        try go_wp2
        have n0_ := Aside0.mk (below_drew1 HB.out)
        clear HB
        have HB := n0_
        clear n0_
        have p382 : 0 ≤ (x5_1 : Int) := oZ
        have q382 : x5_1 < (l0.length : Int) := oZ
        obtain ⟨ad382, e382, hx382_0, hx382_1, hx382_2, hx382_3⟩ := at_T81 HR0.out x5_1 p382 q382
        have hw382_3 := hx382_3
        have hw382_2 := hx382_2
        have hw382_1 := hx382_1
        have hw382_0 := hx382_0
        cases e382
        replace hx382_0 := (HB.out.cell (World.block_lt_of_cell? w _ hx382_0)).trans hx382_0
        replace hx382_1 := (HB.out.cell (World.block_lt_of_cell? w _ hx382_1)).trans hx382_1
        replace hx382_2 := (HB.out.cell (World.block_lt_of_cell? w _ hx382_2)).trans hx382_2
        replace hx382_3 := (HB.out.cell (World.block_lt_of_cell? w _ hx382_3)).trans hx382_3
        replace p382 := eq_true p382
        replace q382 := eq_true q382
        have p383 : 0 ≤ (x5_1 : Int) := oZ
        have q383 : x5_1 < (l1.length : Int) := oZ
        obtain ⟨ad383, e383, hx383_0, hx383_1, hx383_2, hx383_3⟩ := at_T81 HR1.out x5_1 p383 q383
        have hw383_3 := hx383_3
        have hw383_2 := hx383_2
        have hw383_1 := hx383_1
        have hw383_0 := hx383_0
        cases e383
        replace hx383_0 := (HB.out.cell (World.block_lt_of_cell? w _ hx383_0)).trans hx383_0
        replace hx383_1 := (HB.out.cell (World.block_lt_of_cell? w _ hx383_1)).trans hx383_1
        replace hx383_2 := (HB.out.cell (World.block_lt_of_cell? w _ hx383_2)).trans hx383_2
        replace hx383_3 := (HB.out.cell (World.block_lt_of_cell? w _ hx383_3)).trans hx383_3
        replace p383 := eq_true p383
        replace q383 := eq_true q383
        refine start_ (n := 10) (S := fun w' => w'.cell? (ad382.add ((x5_1).toNat * 4)) = some (.string ((rd_T81 l0 x5_1).f0)) ∧ w'.cell? ⟨(ad382.add ((x5_1).toNat * 4)).block, (ad382.add ((x5_1).toNat * 4)).off + 1, none⟩ = some (.int .i64 ((rd_T81 l0 x5_1).f1)) ∧ w'.cell? ⟨(ad382.add ((x5_1).toNat * 4)).block, (ad382.add ((x5_1).toNat * 4)).off + 2, none⟩ = some (.int .i64 ((rd_T81 l0 x5_1).f2)) ∧ w'.cell? ⟨(ad382.add ((x5_1).toNat * 4)).block, (ad382.add ((x5_1).toNat * 4)).off + 3, none⟩ = some (.bool ((rd_T81 l0 x5_1).f3)) ∧ w'.cell? (ad383.add ((x5_1).toNat * 4)) = some (.string ((rd_T81 l1 x5_1).f0)) ∧ w'.cell? ⟨(ad383.add ((x5_1).toNat * 4)).block, (ad383.add ((x5_1).toNat * 4)).off + 1, none⟩ = some (.int .i64 ((rd_T81 l1 x5_1).f1)) ∧ w'.cell? ⟨(ad383.add ((x5_1).toNat * 4)).block, (ad383.add ((x5_1).toNat * 4)).off + 2, none⟩ = some (.int .i64 ((rd_T81 l1 x5_1).f2)) ∧ w'.cell? ⟨(ad383.add ((x5_1).toNat * 4)).block, (ad383.add ((x5_1).toNat * 4)).off + 3, none⟩ = some (.bool ((rd_T81 l1 x5_1).f3))) (ds := []) #[false, false, false, false, false, false, false, false, false, false] (by kernel_rfl) rfl rfl ⟨((HB.out.cell (World.block_lt_of_cell? w _ hw382_0)).trans hw382_0), ((HB.out.cell (World.block_lt_of_cell? w _ hw382_1)).trans hw382_1), ((HB.out.cell (World.block_lt_of_cell? w _ hw382_2)).trans hw382_2), ((HB.out.cell (World.block_lt_of_cell? w _ hw382_3)).trans hw382_3), ((HB.out.cell (World.block_lt_of_cell? w _ hw383_0)).trans hw383_0), ((HB.out.cell (World.block_lt_of_cell? w _ hw383_1)).trans hw383_1), ((HB.out.cell (World.block_lt_of_cell? w _ hw383_2)).trans hw383_2), ((HB.out.cell (World.block_lt_of_cell? w _ hw383_3)).trans hw383_3)⟩ (fun hHeld => ?_); refine with_tabW laws_eqDutyS.tab6 laws_eqDutyS.bits6 (fun HT_ HW_ => ?_)
        generalize wr.drew = w9 at HB hx382_0 hx382_1 hx382_2 hx382_3 hx383_0 hx383_1 hx383_2 hx383_3 hHeld ⊢
        refine puZ 0 (some 17) #[true, false, false, false, false, false, false, false, false, false] rfl rfl HT_.out ?_
        refine puZ 1 (some 18) #[true, true, false, false, false, false, false, false, false, false] rfl rfl HT_.out ?_
        refine puZ 2 (some 19) #[true, true, true, false, false, false, false, false, false, false] rfl rfl HT_.out ?_
        refine puZ 4 (some 21) #[true, true, true, false, true, false, false, false, false, false] rfl rfl HT_.out ?_
        refine puZ 5 (some 22) #[true, true, true, false, true, true, false, false, false, false] rfl rfl HT_.out ?_
        refine puZ 6 (some 23) #[true, true, true, false, true, true, true, false, false, false] rfl rfl HT_.out ?_
        refine take_ (i := 3) (N := some 20) (v := ?_) (a' := ?_) #[true, true, true, true, true, true, true, false, false, false] rfl rfl (take_ofW HT_.out HW_.out (by kernel_rfl)) (fun _ _ _ h => h) (Or.inl ⟨by rfl, ?_⟩) hHeld ?_ ?_
        rotate_left
        ·rintro w' ⟨s0, s1, s2, s3, s4, s5, s6, s7⟩
         go_simp
         with_reducible rfl
        rotate_left
        ·simp only [Act.put, List.setIfInBounds_toArray, List.set_cons_zero, List.set_cons_succ, i64_w, i32_w]
         rfl
        refine take_ (i := 7) (N := some 24) (v := ?_) (a' := ?_) #[true, true, true, true, true, true, true, true, false, false] rfl rfl (take_ofW HT_.out HW_.out (by kernel_rfl)) (fun _ _ _ h => h) (Or.inl ⟨by rfl, ?_⟩) hHeld ?_ ?_
        rotate_left
        ·rintro w' ⟨s0, s1, s2, s3, s4, s5, s6, s7⟩
         go_simp
         with_reducible rfl
        rotate_left
        ·simp only [Act.put, List.setIfInBounds_toArray, List.set_cons_zero, List.set_cons_succ, i64_w, i32_w]
         rfl
        refine one_ (i := 8) (N := some 25) #[true, true, true, true, true, true, true, true, true, false] rfl rfl (one_of HT_.out (by kernel_rfl)) (by decide) (fun K hK => ?_)
        refine goes_ Try.func76 (by kernel_rfl) rfl #[.agg #[.string ((rd_T81 l0 x5_1).f0), .int .i64 ((rd_T81 l0 x5_1).f1), .int .i64 ((rd_T81 l0 x5_1).f2), .bool ((rd_T81 l0 x5_1).f3)], .agg #[.string ((rd_T81 l1 x5_1).f0), .int .i64 ((rd_T81 l1 x5_1).f1), .int .i64 ((rd_T81 l1 x5_1).f2), .bool ((rd_T81 l1 x5_1).f3)]] (by rfl) rfl rfl gZ ?_
        with_reducible refine (laws_eqDuty.calls ((rd_T81 l0 x5_1).f0) ((rd_T81 l0 x5_1).f1) ((rd_T81 l0 x5_1).f2) ((rd_T81 l0 x5_1).f3) ((rd_T81 l1 x5_1).f0) ((rd_T81 l1 x5_1).f1) ((rd_T81 l1 x5_1).f2) ((rd_T81 l1 x5_1).f3) true _ A7.out).mono ?_
        rintro e w10 ⟨rfl, hb⟩
        refine ⟨_, rfl, ?_⟩
        have n0_ := Aside0.mk (below_step bZ hb)
        clear HB
        have HB := n0_
        clear n0_
        (try clear hb)
        (try clear hb2)
        (try clear hk)
        (try clear hi)
        refine hK.out _ _ ⟨((HB.out.cell (World.block_lt_of_cell? w _ hw382_0)).trans hw382_0), ((HB.out.cell (World.block_lt_of_cell? w _ hw382_1)).trans hw382_1), ((HB.out.cell (World.block_lt_of_cell? w _ hw382_2)).trans hw382_2), ((HB.out.cell (World.block_lt_of_cell? w _ hw382_3)).trans hw382_3), ((HB.out.cell (World.block_lt_of_cell? w _ hw383_0)).trans hw383_0), ((HB.out.cell (World.block_lt_of_cell? w _ hw383_1)).trans hw383_1), ((HB.out.cell (World.block_lt_of_cell? w _ hw383_2)).trans hw383_2), ((HB.out.cell (World.block_lt_of_cell? w _ hw383_3)).trans hw383_3)⟩ (fun hHeld => ?_)
        clear hK K
        refine norm_ (a' := ?_) ?_ ?_
        rotate_left
        ·show Act.put _ (some 25) _ = _
         simp only [Act.put, List.setIfInBounds_toArray, List.set_cons_zero, List.set_cons_succ, i64_w, i32_w]
         rfl
        refine puZ 9 (some 26) #[true, true, true, true, true, true, true, true, true, true] rfl rfl HT_.out ?_
        refine done_ (done_of HT_.out (by kernel_rfl)) ?_
        try go_wp2
        go_roundg k1
        case measure => have := HK1.out; omega
        case rel => exact ⟨(wrap64 (x5_1 + 1)), sZ, H', ⟨by have := HK1.out; omega⟩, ⟨bZ⟩⟩
       ·replace c8 := Bool.eq_false_iff.mpr c8
        subst c8
        have H1 : (some false) = some r := by rw [if_neg (show ¬ (false = true) by decide)] at H; exact H
        clear H
        have H := H1
        clear H1
        obtain rfl := Option.some.inj H
        try go_wp2
        have n0_ := Aside0.mk (below_drew1 HB.out)
        clear HB
        have HB := n0_
        clear n0_
        have p382 : 0 ≤ (x5_1 : Int) := oZ
        have q382 : x5_1 < (l0.length : Int) := oZ
        obtain ⟨ad382, e382, hx382_0, hx382_1, hx382_2, hx382_3⟩ := at_T81 HR0.out x5_1 p382 q382
        have hw382_3 := hx382_3
        have hw382_2 := hx382_2
        have hw382_1 := hx382_1
        have hw382_0 := hx382_0
        cases e382
        replace hx382_0 := (HB.out.cell (World.block_lt_of_cell? w _ hx382_0)).trans hx382_0
        replace hx382_1 := (HB.out.cell (World.block_lt_of_cell? w _ hx382_1)).trans hx382_1
        replace hx382_2 := (HB.out.cell (World.block_lt_of_cell? w _ hx382_2)).trans hx382_2
        replace hx382_3 := (HB.out.cell (World.block_lt_of_cell? w _ hx382_3)).trans hx382_3
        replace p382 := eq_true p382
        replace q382 := eq_true q382
        have p383 : 0 ≤ (x5_1 : Int) := oZ
        have q383 : x5_1 < (l1.length : Int) := oZ
        obtain ⟨ad383, e383, hx383_0, hx383_1, hx383_2, hx383_3⟩ := at_T81 HR1.out x5_1 p383 q383
        have hw383_3 := hx383_3
        have hw383_2 := hx383_2
        have hw383_1 := hx383_1
        have hw383_0 := hx383_0
        cases e383
        replace hx383_0 := (HB.out.cell (World.block_lt_of_cell? w _ hx383_0)).trans hx383_0
        replace hx383_1 := (HB.out.cell (World.block_lt_of_cell? w _ hx383_1)).trans hx383_1
        replace hx383_2 := (HB.out.cell (World.block_lt_of_cell? w _ hx383_2)).trans hx383_2
        replace hx383_3 := (HB.out.cell (World.block_lt_of_cell? w _ hx383_3)).trans hx383_3
        replace p383 := eq_true p383
        replace q383 := eq_true q383
        refine start_ (n := 10) (S := fun w' => w'.cell? (ad382.add ((x5_1).toNat * 4)) = some (.string ((rd_T81 l0 x5_1).f0)) ∧ w'.cell? ⟨(ad382.add ((x5_1).toNat * 4)).block, (ad382.add ((x5_1).toNat * 4)).off + 1, none⟩ = some (.int .i64 ((rd_T81 l0 x5_1).f1)) ∧ w'.cell? ⟨(ad382.add ((x5_1).toNat * 4)).block, (ad382.add ((x5_1).toNat * 4)).off + 2, none⟩ = some (.int .i64 ((rd_T81 l0 x5_1).f2)) ∧ w'.cell? ⟨(ad382.add ((x5_1).toNat * 4)).block, (ad382.add ((x5_1).toNat * 4)).off + 3, none⟩ = some (.bool ((rd_T81 l0 x5_1).f3)) ∧ w'.cell? (ad383.add ((x5_1).toNat * 4)) = some (.string ((rd_T81 l1 x5_1).f0)) ∧ w'.cell? ⟨(ad383.add ((x5_1).toNat * 4)).block, (ad383.add ((x5_1).toNat * 4)).off + 1, none⟩ = some (.int .i64 ((rd_T81 l1 x5_1).f1)) ∧ w'.cell? ⟨(ad383.add ((x5_1).toNat * 4)).block, (ad383.add ((x5_1).toNat * 4)).off + 2, none⟩ = some (.int .i64 ((rd_T81 l1 x5_1).f2)) ∧ w'.cell? ⟨(ad383.add ((x5_1).toNat * 4)).block, (ad383.add ((x5_1).toNat * 4)).off + 3, none⟩ = some (.bool ((rd_T81 l1 x5_1).f3))) (ds := []) #[false, false, false, false, false, false, false, false, false, false] (by kernel_rfl) rfl rfl ⟨((HB.out.cell (World.block_lt_of_cell? w _ hw382_0)).trans hw382_0), ((HB.out.cell (World.block_lt_of_cell? w _ hw382_1)).trans hw382_1), ((HB.out.cell (World.block_lt_of_cell? w _ hw382_2)).trans hw382_2), ((HB.out.cell (World.block_lt_of_cell? w _ hw382_3)).trans hw382_3), ((HB.out.cell (World.block_lt_of_cell? w _ hw383_0)).trans hw383_0), ((HB.out.cell (World.block_lt_of_cell? w _ hw383_1)).trans hw383_1), ((HB.out.cell (World.block_lt_of_cell? w _ hw383_2)).trans hw383_2), ((HB.out.cell (World.block_lt_of_cell? w _ hw383_3)).trans hw383_3)⟩ (fun hHeld => ?_); refine with_tabW laws_eqDutyS.tab6 laws_eqDutyS.bits6 (fun HT_ HW_ => ?_)
        generalize wr.drew = w11 at HB hx382_0 hx382_1 hx382_2 hx382_3 hx383_0 hx383_1 hx383_2 hx383_3 hHeld ⊢
        refine puZ 0 (some 17) #[true, false, false, false, false, false, false, false, false, false] rfl rfl HT_.out ?_
        refine puZ 1 (some 18) #[true, true, false, false, false, false, false, false, false, false] rfl rfl HT_.out ?_
        refine puZ 2 (some 19) #[true, true, true, false, false, false, false, false, false, false] rfl rfl HT_.out ?_
        refine puZ 4 (some 21) #[true, true, true, false, true, false, false, false, false, false] rfl rfl HT_.out ?_
        refine puZ 5 (some 22) #[true, true, true, false, true, true, false, false, false, false] rfl rfl HT_.out ?_
        refine puZ 6 (some 23) #[true, true, true, false, true, true, true, false, false, false] rfl rfl HT_.out ?_
        refine take_ (i := 3) (N := some 20) (v := ?_) (a' := ?_) #[true, true, true, true, true, true, true, false, false, false] rfl rfl (take_ofW HT_.out HW_.out (by kernel_rfl)) (fun _ _ _ h => h) (Or.inl ⟨by rfl, ?_⟩) hHeld ?_ ?_
        rotate_left
        ·rintro w' ⟨s0, s1, s2, s3, s4, s5, s6, s7⟩
         go_simp
         with_reducible rfl
        rotate_left
        ·simp only [Act.put, List.setIfInBounds_toArray, List.set_cons_zero, List.set_cons_succ, i64_w, i32_w]
         rfl
        refine take_ (i := 7) (N := some 24) (v := ?_) (a' := ?_) #[true, true, true, true, true, true, true, true, false, false] rfl rfl (take_ofW HT_.out HW_.out (by kernel_rfl)) (fun _ _ _ h => h) (Or.inl ⟨by rfl, ?_⟩) hHeld ?_ ?_
        rotate_left
        ·rintro w' ⟨s0, s1, s2, s3, s4, s5, s6, s7⟩
         go_simp
         with_reducible rfl
        rotate_left
        ·simp only [Act.put, List.setIfInBounds_toArray, List.set_cons_zero, List.set_cons_succ, i64_w, i32_w]
         rfl
        refine one_ (i := 8) (N := some 25) #[true, true, true, true, true, true, true, true, true, false] rfl rfl (one_of HT_.out (by kernel_rfl)) (by decide) (fun K hK => ?_)
        refine goes_ Try.func76 (by kernel_rfl) rfl #[.agg #[.string ((rd_T81 l0 x5_1).f0), .int .i64 ((rd_T81 l0 x5_1).f1), .int .i64 ((rd_T81 l0 x5_1).f2), .bool ((rd_T81 l0 x5_1).f3)], .agg #[.string ((rd_T81 l1 x5_1).f0), .int .i64 ((rd_T81 l1 x5_1).f1), .int .i64 ((rd_T81 l1 x5_1).f2), .bool ((rd_T81 l1 x5_1).f3)]] (by rfl) rfl rfl gZ ?_
        with_reducible refine (laws_eqDuty.calls ((rd_T81 l0 x5_1).f0) ((rd_T81 l0 x5_1).f1) ((rd_T81 l0 x5_1).f2) ((rd_T81 l0 x5_1).f3) ((rd_T81 l1 x5_1).f0) ((rd_T81 l1 x5_1).f1) ((rd_T81 l1 x5_1).f2) ((rd_T81 l1 x5_1).f3) false _ A7.out).mono ?_
        rintro e w12 ⟨rfl, hb⟩
        refine ⟨_, rfl, ?_⟩
        have n0_ := Aside0.mk (below_step bZ hb)
        clear HB
        have HB := n0_
        clear n0_
        (try clear hb)
        (try clear hb2)
        (try clear hk)
        (try clear hi)
        refine hK.out _ _ ⟨((HB.out.cell (World.block_lt_of_cell? w _ hw382_0)).trans hw382_0), ((HB.out.cell (World.block_lt_of_cell? w _ hw382_1)).trans hw382_1), ((HB.out.cell (World.block_lt_of_cell? w _ hw382_2)).trans hw382_2), ((HB.out.cell (World.block_lt_of_cell? w _ hw382_3)).trans hw382_3), ((HB.out.cell (World.block_lt_of_cell? w _ hw383_0)).trans hw383_0), ((HB.out.cell (World.block_lt_of_cell? w _ hw383_1)).trans hw383_1), ((HB.out.cell (World.block_lt_of_cell? w _ hw383_2)).trans hw383_2), ((HB.out.cell (World.block_lt_of_cell? w _ hw383_3)).trans hw383_3)⟩ (fun hHeld => ?_)
        clear hK K
        refine norm_ (a' := ?_) ?_ ?_
        rotate_left
        ·show Act.put _ (some 25) _ = _
         simp only [Act.put, List.setIfInBounds_toArray, List.set_cons_zero, List.set_cons_succ, i64_w, i32_w]
         rfl
        refine puZ 9 (some 26) #[true, true, true, true, true, true, true, true, true, true] rfl rfl HT_.out ?_
        refine done_ (done_of HT_.out (by kernel_rfl)) ?_
        try go_wp2
        go_ret
        exact ⟨eZ, bZ⟩
      ·rw [if_neg c6] at H
       exact absurd H (by simp)
     ·rw [if_neg c5] at H
      exact absurd H (by simp)
    ·rw [if_neg c4] at H
     have c4b0 : decide (x5_1 < (l0.length : Int)) = false := decide_eq_false c4
     clear c4
     obtain rfl := Option.some.inj H
     go_wp2
     go_ret
     exact ⟨eZ, bZ⟩
 ·rw [if_neg c3] at H
  have c3b0 : ((l0.length : Int) == (l1.length : Int)) = false := beq_eq_false_iff_ne.mpr c3
  have c3b1 : ((l0.length : Int) != (l1.length : Int)) = true := bne_iff_ne.mpr c3
  have c3b2 : (l0.length == l1.length) = false := by first | simpa using c3 | (simp at c3 ⊢; omega)
  obtain rfl := Option.some.inj H
  go_enter Try.func50, Try.ntmps50
  go_wp2
  go_ret
  exact ⟨eZ, bZ⟩
end Go.Proofs.Ytmfhncjkfhdlcaa.XM
end

section
namespace Go.Proofs.Ytmfhncjkfhdlcaa.XM
open Go.RowKit Go.Proofs.YtmfhncjkfhdlcaaW.PrintWords Go.Proofs.YtmfhncjkfhdlcaaW.PrintLast Go.Proofs.YtmfhncjkfhdlcaaW.PrintMore
attribute [local go_sem] run_eql_slice_nil binOp_string_gtr' binOp_string_leq' binOp_string_geq' max2_int min2_int max_two min_two max_three min_three max_four min_four   -- for this text's walks alone
set_option linter.unusedVariables false
set_option linter.unusedSimpArgs false
def laws_eqDesk.f (k : Nat) (l0_0 : List Int) (l0_1 : List (S118)) (l0_2 : List Int) (l0_3 : List (S66)) (l0_4 : List (S71)) (l0_5 : List (S73)) (a0_6 : Int) (a0_7 : Int) (a0_8 : Int) (l0_9 : List (S75)) (l0_10 : List (S77)) (l0_11 : List (S79)) (l0_12 : List (S81)) (l1_0 : List Int) (l1_1 : List (S118)) (l1_2 : List Int) (l1_3 : List (S66)) (l1_4 : List (S71)) (l1_5 : List (S73)) (a1_6 : Int) (a1_7 : Int) (a1_8 : Int) (l1_9 : List (S75)) (l1_10 : List (S77)) (l1_11 : List (S79)) (l1_12 : List (S81)) : Option (Bool) := (laws_eqNetwork.f k l0_0 l0_1 l1_0 l1_1).bind fun t387 => (if t387 = true then ((laws_eqInt64S.f k l0_2 l1_2).bind fun t388 => (if t388 = true then ((laws_eqValveS.f k l0_3 l1_3).bind fun t389 => (if t389 = true then ((laws_eqPumpS.f k l0_4 l1_4).bind fun t390 => (if t390 = true then ((laws_eqSubstationS.f k l0_5 l1_5).bind fun t391 => (if t391 = true then ((laws_eqTank.f a0_6 a0_7 a0_8 a1_6 a1_7 a1_8).bind fun t392 => (if t392 = true then ((laws_eqFuelS.f k l0_9 l1_9).bind fun t393 => (if t393 = true then ((laws_eqRepairS.f k l0_10 l1_10).bind fun t394 => (if t394 = true then ((laws_eqTenantS.f k l0_11 l1_11).bind fun t395 => (if t395 = true then ((laws_eqDutyS.f k l0_12 l1_12).bind fun t396 => (if t396 = true then (some true) else (none))) else (none))) else (none))) else (none))) else (none))) else (none))) else (none))) else (none))) else (none))) else (none))
set_option maxHeartbeats 8000000 in
set_option maxRecDepth 100000 in
theorem laws_eqDesk.calls (k : Nat) (A0_0 : Option Addr) (c0_0 : Nat) (l0_0 : List Int) (A0_1 : Option Addr) (c0_1 : Nat) (l0_1 : List (S118)) (A0_2 : Option Addr) (c0_2 : Nat) (l0_2 : List Int) (A0_3 : Option Addr) (c0_3 : Nat) (l0_3 : List (S66)) (A0_4 : Option Addr) (c0_4 : Nat) (l0_4 : List (S71)) (A0_5 : Option Addr) (c0_5 : Nat) (l0_5 : List (S73)) (a0_6 : Int) (a0_7 : Int) (a0_8 : Int) (A0_9 : Option Addr) (c0_9 : Nat) (l0_9 : List (S75)) (A0_10 : Option Addr) (c0_10 : Nat) (l0_10 : List (S77)) (A0_11 : Option Addr) (c0_11 : Nat) (l0_11 : List (S79)) (A0_12 : Option Addr) (c0_12 : Nat) (l0_12 : List (S81)) (A1_0 : Option Addr) (c1_0 : Nat) (l1_0 : List Int) (A1_1 : Option Addr) (c1_1 : Nat) (l1_1 : List (S118)) (A1_2 : Option Addr) (c1_2 : Nat) (l1_2 : List Int) (A1_3 : Option Addr) (c1_3 : Nat) (l1_3 : List (S66)) (A1_4 : Option Addr) (c1_4 : Nat) (l1_4 : List (S71)) (A1_5 : Option Addr) (c1_5 : Nat) (l1_5 : List (S73)) (a1_6 : Int) (a1_7 : Int) (a1_8 : Int) (A1_9 : Option Addr) (c1_9 : Nat) (l1_9 : List (S75)) (A1_10 : Option Addr) (c1_10 : Nat) (l1_10 : List (S77)) (A1_11 : Option Addr) (c1_11 : Nat) (l1_11 : List (S79)) (A1_12 : Option Addr) (c1_12 : Nat) (l1_12 : List (S81)) (r : Bool) (w : World) (hr0_0 : Kd.C (Kd.int .i64) w A0_0 l0_0.length l0_0) (hc0_0 : l0_0.length ≤ c0_0) (hr0_1 : Kd.C k118 w A0_1 l0_1.length l0_1) (hc0_1 : l0_1.length ≤ c0_1) (hr0_2 : Kd.C (Kd.int .i64) w A0_2 l0_2.length l0_2) (hc0_2 : l0_2.length ≤ c0_2) (hr0_3 : Kd.C k66 w A0_3 l0_3.length l0_3) (hc0_3 : l0_3.length ≤ c0_3) (hr0_4 : Kd.C k71 w A0_4 l0_4.length l0_4) (hc0_4 : l0_4.length ≤ c0_4) (hr0_5 : Kd.C k73 w A0_5 l0_5.length l0_5) (hc0_5 : l0_5.length ≤ c0_5) (hr0_9 : Kd.C k75 w A0_9 l0_9.length l0_9) (hc0_9 : l0_9.length ≤ c0_9) (hr0_10 : Kd.C k77 w A0_10 l0_10.length l0_10) (hc0_10 : l0_10.length ≤ c0_10) (hr0_11 : Kd.C k79 w A0_11 l0_11.length l0_11) (hc0_11 : l0_11.length ≤ c0_11) (hr0_12 : Kd.C k81 w A0_12 l0_12.length l0_12) (hc0_12 : l0_12.length ≤ c0_12) (hr1_0 : Kd.C (Kd.int .i64) w A1_0 l1_0.length l1_0) (hc1_0 : l1_0.length ≤ c1_0) (hr1_1 : Kd.C k118 w A1_1 l1_1.length l1_1) (hc1_1 : l1_1.length ≤ c1_1) (hr1_2 : Kd.C (Kd.int .i64) w A1_2 l1_2.length l1_2) (hc1_2 : l1_2.length ≤ c1_2) (hr1_3 : Kd.C k66 w A1_3 l1_3.length l1_3) (hc1_3 : l1_3.length ≤ c1_3) (hr1_4 : Kd.C k71 w A1_4 l1_4.length l1_4) (hc1_4 : l1_4.length ≤ c1_4) (hr1_5 : Kd.C k73 w A1_5 l1_5.length l1_5) (hc1_5 : l1_5.length ≤ c1_5) (hr1_9 : Kd.C k75 w A1_9 l1_9.length l1_9) (hc1_9 : l1_9.length ≤ c1_9) (hr1_10 : Kd.C k77 w A1_10 l1_10.length l1_10) (hc1_10 : l1_10.length ≤ c1_10) (hr1_11 : Kd.C k79 w A1_11 l1_11.length l1_11) (hc1_11 : l1_11.length ≤ c1_11) (hr1_12 : Kd.C k81 w A1_12 l1_12.length l1_12) (hc1_12 : l1_12.length ≤ c1_12) (h : laws_eqDesk.f k l0_0 l0_1 l0_2 l0_3 l0_4 l0_5 a0_6 a0_7 a0_8 l0_9 l0_10 l0_11 l0_12 l1_0 l1_1 l1_2 l1_3 l1_4 l1_5 a1_6 a1_7 a1_8 l1_9 l1_10 l1_11 l1_12 = some r) :
  Calls Try.prog 8 #[.agg #[.slice A0_0 l0_0.length c0_0, .slice A0_1 l0_1.length c0_1, .slice A0_2 l0_2.length c0_2, .slice A0_3 l0_3.length c0_3, .slice A0_4 l0_4.length c0_4, .slice A0_5 l0_5.length c0_5, .int .i64 a0_6, .int .i64 a0_7, .int .i64 a0_8, .slice A0_9 l0_9.length c0_9, .slice A0_10 l0_10.length c0_10, .slice A0_11 l0_11.length c0_11, .slice A0_12 l0_12.length c0_12], .agg #[.slice A1_0 l1_0.length c1_0, .slice A1_1 l1_1.length c1_1, .slice A1_2 l1_2.length c1_2, .slice A1_3 l1_3.length c1_3, .slice A1_4 l1_4.length c1_4, .slice A1_5 l1_5.length c1_5, .int .i64 a1_6, .int .i64 a1_7, .int .i64 a1_8, .slice A1_9 l1_9.length c1_9, .slice A1_10 l1_10.length c1_10, .slice A1_11 l1_11.length c1_11, .slice A1_12 l1_12.length c1_12]] w fun e w' => e = .returned (.bool r) ∧ Below w.heap.size w w' := by
 have hu51 := Try.underlying51
 have hu41 := Try.underlying41
 have hu45 := Try.underlying45
 have HR0_0 := Aside0.mk hr0_0
 have HC0_0 := Aside0.mk hc0_0
 clear hr0_0 hc0_0
 have HR0_1 := Aside0.mk hr0_1
 have HC0_1 := Aside0.mk hc0_1
 clear hr0_1 hc0_1
 have HR0_2 := Aside0.mk hr0_2
 have HC0_2 := Aside0.mk hc0_2
 clear hr0_2 hc0_2
 have HR0_3 := Aside0.mk hr0_3
 have HC0_3 := Aside0.mk hc0_3
 clear hr0_3 hc0_3
 have HR0_4 := Aside0.mk hr0_4
 have HC0_4 := Aside0.mk hc0_4
 clear hr0_4 hc0_4
 have HR0_5 := Aside0.mk hr0_5
 have HC0_5 := Aside0.mk hc0_5
 clear hr0_5 hc0_5
 have HR0_9 := Aside0.mk hr0_9
 have HC0_9 := Aside0.mk hc0_9
 clear hr0_9 hc0_9
 have HR0_10 := Aside0.mk hr0_10
 have HC0_10 := Aside0.mk hc0_10
 clear hr0_10 hc0_10
 have HR0_11 := Aside0.mk hr0_11
 have HC0_11 := Aside0.mk hc0_11
 clear hr0_11 hc0_11
 have HR0_12 := Aside0.mk hr0_12
 have HC0_12 := Aside0.mk hc0_12
 clear hr0_12 hc0_12
 have HR1_0 := Aside0.mk hr1_0
 have HC1_0 := Aside0.mk hc1_0
 clear hr1_0 hc1_0
 have HR1_1 := Aside0.mk hr1_1
 have HC1_1 := Aside0.mk hc1_1
 clear hr1_1 hc1_1
 have HR1_2 := Aside0.mk hr1_2
 have HC1_2 := Aside0.mk hc1_2
 clear hr1_2 hc1_2
 have HR1_3 := Aside0.mk hr1_3
 have HC1_3 := Aside0.mk hc1_3
 clear hr1_3 hc1_3
 have HR1_4 := Aside0.mk hr1_4
 have HC1_4 := Aside0.mk hc1_4
 clear hr1_4 hc1_4
 have HR1_5 := Aside0.mk hr1_5
 have HC1_5 := Aside0.mk hc1_5
 clear hr1_5 hc1_5
 have HR1_9 := Aside0.mk hr1_9
 have HC1_9 := Aside0.mk hc1_9
 clear hr1_9 hc1_9
 have HR1_10 := Aside0.mk hr1_10
 have HC1_10 := Aside0.mk hc1_10
 clear hr1_10 hc1_10
 have HR1_11 := Aside0.mk hr1_11
 have HC1_11 := Aside0.mk hc1_11
 clear hr1_11 hc1_11
 have HR1_12 := Aside0.mk hr1_12
 have HC1_12 := Aside0.mk hc1_12
 clear hr1_12 hc1_12
 have HB := Aside0.mk (Below.refl w.heap.size w)
 have H : ((laws_eqNetwork.f k l0_0 l0_1 l1_0 l1_1).bind fun t387 => (if t387 = true then ((laws_eqInt64S.f k l0_2 l1_2).bind fun t388 => (if t388 = true then ((laws_eqValveS.f k l0_3 l1_3).bind fun t389 => (if t389 = true then ((laws_eqPumpS.f k l0_4 l1_4).bind fun t390 => (if t390 = true then ((laws_eqSubstationS.f k l0_5 l1_5).bind fun t391 => (if t391 = true then ((laws_eqTank.f a0_6 a0_7 a0_8 a1_6 a1_7 a1_8).bind fun t392 => (if t392 = true then ((laws_eqFuelS.f k l0_9 l1_9).bind fun t393 => (if t393 = true then ((laws_eqRepairS.f k l0_10 l1_10).bind fun t394 => (if t394 = true then ((laws_eqTenantS.f k l0_11 l1_11).bind fun t395 => (if t395 = true then ((laws_eqDutyS.f k l0_12 l1_12).bind fun t396 => (if t396 = true then (some true) else (none))) else (none))) else (none))) else (none))) else (none))) else (none))) else (none))) else (none))) else (none))) else (none))) = some r := h
 clear h
 replace H := Option.bind_eq_some_iff.mp H
 obtain ⟨t387, A30, H⟩ := H
 replace H : (if t387 = true then ((laws_eqInt64S.f k l0_2 l1_2).bind fun t388 => (if t388 = true then ((laws_eqValveS.f k l0_3 l1_3).bind fun t389 => (if t389 = true then ((laws_eqPumpS.f k l0_4 l1_4).bind fun t390 => (if t390 = true then ((laws_eqSubstationS.f k l0_5 l1_5).bind fun t391 => (if t391 = true then ((laws_eqTank.f a0_6 a0_7 a0_8 a1_6 a1_7 a1_8).bind fun t392 => (if t392 = true then ((laws_eqFuelS.f k l0_9 l1_9).bind fun t393 => (if t393 = true then ((laws_eqRepairS.f k l0_10 l1_10).bind fun t394 => (if t394 = true then ((laws_eqTenantS.f k l0_11 l1_11).bind fun t395 => (if t395 = true then ((laws_eqDutyS.f k l0_12 l1_12).bind fun t396 => (if t396 = true then (some true) else (none))) else (none))) else (none))) else (none))) else (none))) else (none))) else (none))) else (none))) else (none))) else (none)) = some r := H
 have A3 := Aside0.mk A30
 clear A30
 by_cases c4 : t387 = true
 ·subst c4
  have H1 : ((laws_eqInt64S.f k l0_2 l1_2).bind fun t388 => (if t388 = true then ((laws_eqValveS.f k l0_3 l1_3).bind fun t389 => (if t389 = true then ((laws_eqPumpS.f k l0_4 l1_4).bind fun t390 => (if t390 = true then ((laws_eqSubstationS.f k l0_5 l1_5).bind fun t391 => (if t391 = true then ((laws_eqTank.f a0_6 a0_7 a0_8 a1_6 a1_7 a1_8).bind fun t392 => (if t392 = true then ((laws_eqFuelS.f k l0_9 l1_9).bind fun t393 => (if t393 = true then ((laws_eqRepairS.f k l0_10 l1_10).bind fun t394 => (if t394 = true then ((laws_eqTenantS.f k l0_11 l1_11).bind fun t395 => (if t395 = true then ((laws_eqDutyS.f k l0_12 l1_12).bind fun t396 => (if t396 = true then (some true) else (none))) else (none))) else (none))) else (none))) else (none))) else (none))) else (none))) else (none))) else (none))) = some r := by rw [if_pos rfl] at H; exact H
  clear H
  have H := H1
  clear H1
  replace H := Option.bind_eq_some_iff.mp H
  obtain ⟨t388, A50, H⟩ := H
  replace H : (if t388 = true then ((laws_eqValveS.f k l0_3 l1_3).bind fun t389 => (if t389 = true then ((laws_eqPumpS.f k l0_4 l1_4).bind fun t390 => (if t390 = true then ((laws_eqSubstationS.f k l0_5 l1_5).bind fun t391 => (if t391 = true then ((laws_eqTank.f a0_6 a0_7 a0_8 a1_6 a1_7 a1_8).bind fun t392 => (if t392 = true then ((laws_eqFuelS.f k l0_9 l1_9).bind fun t393 => (if t393 = true then ((laws_eqRepairS.f k l0_10 l1_10).bind fun t394 => (if t394 = true then ((laws_eqTenantS.f k l0_11 l1_11).bind fun t395 => (if t395 = true then ((laws_eqDutyS.f k l0_12 l1_12).bind fun t396 => (if t396 = true then (some true) else (none))) else (none))) else (none))) else (none))) else (none))) else (none))) else (none))) else (none))) else (none)) = some r := H
  have A5 := Aside0.mk A50
  clear A50
  by_cases c6 : t388 = true
  ·subst c6
   have H1 : ((laws_eqValveS.f k l0_3 l1_3).bind fun t389 => (if t389 = true then ((laws_eqPumpS.f k l0_4 l1_4).bind fun t390 => (if t390 = true then ((laws_eqSubstationS.f k l0_5 l1_5).bind fun t391 => (if t391 = true then ((laws_eqTank.f a0_6 a0_7 a0_8 a1_6 a1_7 a1_8).bind fun t392 => (if t392 = true then ((laws_eqFuelS.f k l0_9 l1_9).bind fun t393 => (if t393 = true then ((laws_eqRepairS.f k l0_10 l1_10).bind fun t394 => (if t394 = true then ((laws_eqTenantS.f k l0_11 l1_11).bind fun t395 => (if t395 = true then ((laws_eqDutyS.f k l0_12 l1_12).bind fun t396 => (if t396 = true then (some true) else (none))) else (none))) else (none))) else (none))) else (none))) else (none))) else (none))) else (none))) = some r := by rw [if_pos rfl] at H; exact H
   clear H
   have H := H1
   clear H1
   replace H := Option.bind_eq_some_iff.mp H
   obtain ⟨t389, A70, H⟩ := H
   replace H : (if t389 = true then ((laws_eqPumpS.f k l0_4 l1_4).bind fun t390 => (if t390 = true then ((laws_eqSubstationS.f k l0_5 l1_5).bind fun t391 => (if t391 = true then ((laws_eqTank.f a0_6 a0_7 a0_8 a1_6 a1_7 a1_8).bind fun t392 => (if t392 = true then ((laws_eqFuelS.f k l0_9 l1_9).bind fun t393 => (if t393 = true then ((laws_eqRepairS.f k l0_10 l1_10).bind fun t394 => (if t394 = true then ((laws_eqTenantS.f k l0_11 l1_11).bind fun t395 => (if t395 = true then ((laws_eqDutyS.f k l0_12 l1_12).bind fun t396 => (if t396 = true then (some true) else (none))) else (none))) else (none))) else (none))) else (none))) else (none))) else (none))) else (none)) = some r := H
   have A7 := Aside0.mk A70
   clear A70
   by_cases c8 : t389 = true
   ·subst c8
    have H1 : ((laws_eqPumpS.f k l0_4 l1_4).bind fun t390 => (if t390 = true then ((laws_eqSubstationS.f k l0_5 l1_5).bind fun t391 => (if t391 = true then ((laws_eqTank.f a0_6 a0_7 a0_8 a1_6 a1_7 a1_8).bind fun t392 => (if t392 = true then ((laws_eqFuelS.f k l0_9 l1_9).bind fun t393 => (if t393 = true then ((laws_eqRepairS.f k l0_10 l1_10).bind fun t394 => (if t394 = true then ((laws_eqTenantS.f k l0_11 l1_11).bind fun t395 => (if t395 = true then ((laws_eqDutyS.f k l0_12 l1_12).bind fun t396 => (if t396 = true then (some true) else (none))) else (none))) else (none))) else (none))) else (none))) else (none))) else (none))) = some r := by rw [if_pos rfl] at H; exact H
    clear H
    have H := H1
    clear H1
    replace H := Option.bind_eq_some_iff.mp H
    obtain ⟨t390, A90, H⟩ := H
    replace H : (if t390 = true then ((laws_eqSubstationS.f k l0_5 l1_5).bind fun t391 => (if t391 = true then ((laws_eqTank.f a0_6 a0_7 a0_8 a1_6 a1_7 a1_8).bind fun t392 => (if t392 = true then ((laws_eqFuelS.f k l0_9 l1_9).bind fun t393 => (if t393 = true then ((laws_eqRepairS.f k l0_10 l1_10).bind fun t394 => (if t394 = true then ((laws_eqTenantS.f k l0_11 l1_11).bind fun t395 => (if t395 = true then ((laws_eqDutyS.f k l0_12 l1_12).bind fun t396 => (if t396 = true then (some true) else (none))) else (none))) else (none))) else (none))) else (none))) else (none))) else (none)) = some r := H
    have A9 := Aside0.mk A90
    clear A90
    by_cases c10 : t390 = true
    ·subst c10
     have H1 : ((laws_eqSubstationS.f k l0_5 l1_5).bind fun t391 => (if t391 = true then ((laws_eqTank.f a0_6 a0_7 a0_8 a1_6 a1_7 a1_8).bind fun t392 => (if t392 = true then ((laws_eqFuelS.f k l0_9 l1_9).bind fun t393 => (if t393 = true then ((laws_eqRepairS.f k l0_10 l1_10).bind fun t394 => (if t394 = true then ((laws_eqTenantS.f k l0_11 l1_11).bind fun t395 => (if t395 = true then ((laws_eqDutyS.f k l0_12 l1_12).bind fun t396 => (if t396 = true then (some true) else (none))) else (none))) else (none))) else (none))) else (none))) else (none))) = some r := by rw [if_pos rfl] at H; exact H
     clear H
     have H := H1
     clear H1
     replace H := Option.bind_eq_some_iff.mp H
     obtain ⟨t391, A110, H⟩ := H
     replace H : (if t391 = true then ((laws_eqTank.f a0_6 a0_7 a0_8 a1_6 a1_7 a1_8).bind fun t392 => (if t392 = true then ((laws_eqFuelS.f k l0_9 l1_9).bind fun t393 => (if t393 = true then ((laws_eqRepairS.f k l0_10 l1_10).bind fun t394 => (if t394 = true then ((laws_eqTenantS.f k l0_11 l1_11).bind fun t395 => (if t395 = true then ((laws_eqDutyS.f k l0_12 l1_12).bind fun t396 => (if t396 = true then (some true) else (none))) else (none))) else (none))) else (none))) else (none))) else (none)) = some r := H
     have A11 := Aside0.mk A110
     clear A110
     by_cases c12 : t391 = true
     ·subst c12
      have H1 : ((laws_eqTank.f a0_6 a0_7 a0_8 a1_6 a1_7 a1_8).bind fun t392 => (if t392 = true then ((laws_eqFuelS.f k l0_9 l1_9).bind fun t393 => (if t393 = true then ((laws_eqRepairS.f k l0_10 l1_10).bind fun t394 => (if t394 = true then ((laws_eqTenantS.f k l0_11 l1_11).bind fun t395 => (if t395 = true then ((laws_eqDutyS.f k l0_12 l1_12).bind fun t396 => (if t396 = true then (some true) else (none))) else (none))) else (none))) else (none))) else (none))) = some r := by rw [if_pos rfl] at H; exact H
      clear H
      have H := H1
      clear H1
      replace H := Option.bind_eq_some_iff.mp H
      obtain ⟨t392, A130, H⟩ := H
      replace H : (if t392 = true then ((laws_eqFuelS.f k l0_9 l1_9).bind fun t393 => (if t393 = true then ((laws_eqRepairS.f k l0_10 l1_10).bind fun t394 => (if t394 = true then ((laws_eqTenantS.f k l0_11 l1_11).bind fun t395 => (if t395 = true then ((laws_eqDutyS.f k l0_12 l1_12).bind fun t396 => (if t396 = true then (some true) else (none))) else (none))) else (none))) else (none))) else (none)) = some r := H
      have A13 := Aside0.mk A130
      clear A130
      by_cases c14 : t392 = true
      ·subst c14
       have H1 : ((laws_eqFuelS.f k l0_9 l1_9).bind fun t393 => (if t393 = true then ((laws_eqRepairS.f k l0_10 l1_10).bind fun t394 => (if t394 = true then ((laws_eqTenantS.f k l0_11 l1_11).bind fun t395 => (if t395 = true then ((laws_eqDutyS.f k l0_12 l1_12).bind fun t396 => (if t396 = true then (some true) else (none))) else (none))) else (none))) else (none))) = some r := by rw [if_pos rfl] at H; exact H
       clear H
       have H := H1
       clear H1
       replace H := Option.bind_eq_some_iff.mp H
       obtain ⟨t393, A150, H⟩ := H
       replace H : (if t393 = true then ((laws_eqRepairS.f k l0_10 l1_10).bind fun t394 => (if t394 = true then ((laws_eqTenantS.f k l0_11 l1_11).bind fun t395 => (if t395 = true then ((laws_eqDutyS.f k l0_12 l1_12).bind fun t396 => (if t396 = true then (some true) else (none))) else (none))) else (none))) else (none)) = some r := H
       have A15 := Aside0.mk A150
       clear A150
       by_cases c16 : t393 = true
       ·subst c16
        have H1 : ((laws_eqRepairS.f k l0_10 l1_10).bind fun t394 => (if t394 = true then ((laws_eqTenantS.f k l0_11 l1_11).bind fun t395 => (if t395 = true then ((laws_eqDutyS.f k l0_12 l1_12).bind fun t396 => (if t396 = true then (some true) else (none))) else (none))) else (none))) = some r := by rw [if_pos rfl] at H; exact H
        clear H
        have H := H1
        clear H1
        replace H := Option.bind_eq_some_iff.mp H
        obtain ⟨t394, A170, H⟩ := H
        replace H : (if t394 = true then ((laws_eqTenantS.f k l0_11 l1_11).bind fun t395 => (if t395 = true then ((laws_eqDutyS.f k l0_12 l1_12).bind fun t396 => (if t396 = true then (some true) else (none))) else (none))) else (none)) = some r := H
        have A17 := Aside0.mk A170
        clear A170
        by_cases c18 : t394 = true
        ·subst c18
         have H1 : ((laws_eqTenantS.f k l0_11 l1_11).bind fun t395 => (if t395 = true then ((laws_eqDutyS.f k l0_12 l1_12).bind fun t396 => (if t396 = true then (some true) else (none))) else (none))) = some r := by rw [if_pos rfl] at H; exact H
         clear H
         have H := H1
         clear H1
         replace H := Option.bind_eq_some_iff.mp H
         obtain ⟨t395, A190, H⟩ := H
         replace H : (if t395 = true then ((laws_eqDutyS.f k l0_12 l1_12).bind fun t396 => (if t396 = true then (some true) else (none))) else (none)) = some r := H
         have A19 := Aside0.mk A190
         clear A190
         by_cases c20 : t395 = true
         ·subst c20
          have H1 : ((laws_eqDutyS.f k l0_12 l1_12).bind fun t396 => (if t396 = true then (some true) else (none))) = some r := by rw [if_pos rfl] at H; exact H
          clear H
          have H := H1
          clear H1
          replace H := Option.bind_eq_some_iff.mp H
          obtain ⟨t396, A210, H⟩ := H
          replace H : (if t396 = true then (some true) else (none)) = some r := H
          have A21 := Aside0.mk A210
          clear A210
          by_cases c22 : t396 = true
          ·subst c22
           have H1 : (some true) = some r := by rw [if_pos rfl] at H; exact H
           clear H
           have H := H1
           clear H1
           obtain rfl := Option.some.inj H
           go_enter Try.func8, Try.ntmps8
           go_wp2_with (first | ((with_reducible refine gate_dst (N := 2) rfl ?_); refine boxZ 2 #[.slice A0_0 l0_0.length c0_0, .slice A0_1 l0_1.length c0_1, .slice A0_2 l0_2.length c0_2, .slice A0_3 l0_3.length c0_3, .slice A0_4 l0_4.length c0_4, .slice A0_5 l0_5.length c0_5, .int .i64 a0_6, .int .i64 a0_7, .int .i64 a0_8, .slice A0_9 l0_9.length c0_9, .slice A0_10 l0_10.length c0_10, .slice A0_11 l0_11.length c0_11, .slice A0_12 l0_12.length c0_12] 51 rfl rfl ?_; intro gb385 hg w23 hbox hb; have n0_ := Aside0.mk (below_step bZ hb); have n1_ := Aside0.mk (hbox); have n2_ := Aside0.mk ((by rw [hg]; exact bsZ : w.heap.size ≤ gb385)); have n3_ := Aside0.mk ((by rw [hg]; exact bsZ : w.heap.size ≤ gb385)); clear HB; have HB := n0_; have BK385 := n1_; have GW385 := n2_; have GE385 := n3_; clear n0_ n1_ n2_ n3_; clear hb hbox hg) | ((with_reducible refine gate_dst (N := 3) rfl ?_); refine boxZ 3 #[.slice A1_0 l1_0.length c1_0, .slice A1_1 l1_1.length c1_1, .slice A1_2 l1_2.length c1_2, .slice A1_3 l1_3.length c1_3, .slice A1_4 l1_4.length c1_4, .slice A1_5 l1_5.length c1_5, .int .i64 a1_6, .int .i64 a1_7, .int .i64 a1_8, .slice A1_9 l1_9.length c1_9, .slice A1_10 l1_10.length c1_10, .slice A1_11 l1_11.length c1_11, .slice A1_12 l1_12.length c1_12] 51 rfl rfl ?_; intro gb386 hg w24 hbox hb; have n0_ := Aside0.mk (blk_below (g := gb385) (o := .cells #[.slice A0_0 l0_0.length c0_0, .slice A0_1 l0_1.length c0_1, .slice A0_2 l0_2.length c0_2, .slice A0_3 l0_3.length c0_3, .slice A0_4 l0_4.length c0_4, .slice A0_5 l0_5.length c0_5, .int .i64 a0_6, .int .i64 a0_7, .int .i64 a0_8, .slice A0_9 l0_9.length c0_9, .slice A0_10 l0_10.length c0_10, .slice A0_11 l0_11.length c0_11, .slice A0_12 l0_12.length c0_12] 51 (0, 0)) (kZ BK385.out) hb); have n1_ := Aside0.mk (below_step bZ hb); have n2_ := Aside0.mk (hbox); have n3_ := Aside0.mk ((by rw [hg]; exact bsZ : w.heap.size ≤ gb386)); have n4_ := Aside0.mk ((by rw [hg]; exact bsZ : w.heap.size ≤ gb386)); have n5_ := Aside0.mk ((by rw [hg]; exact Nat.ne_of_lt (blk_lt (g := gb385) (o := .cells #[.slice A0_0 l0_0.length c0_0, .slice A0_1 l0_1.length c0_1, .slice A0_2 l0_2.length c0_2, .slice A0_3 l0_3.length c0_3, .slice A0_4 l0_4.length c0_4, .slice A0_5 l0_5.length c0_5, .int .i64 a0_6, .int .i64 a0_7, .int .i64 a0_8, .slice A0_9 l0_9.length c0_9, .slice A0_10 l0_10.length c0_10, .slice A0_11 l0_11.length c0_11, .slice A0_12 l0_12.length c0_12] 51 (0, 0)) (kZ BK385.out)) : gb385 ≠ gb386)); have n6_ := Aside0.mk ((by rw [hg]; exact Nat.ne_of_gt (blk_lt (g := gb385) (o := .cells #[.slice A0_0 l0_0.length c0_0, .slice A0_1 l0_1.length c0_1, .slice A0_2 l0_2.length c0_2, .slice A0_3 l0_3.length c0_3, .slice A0_4 l0_4.length c0_4, .slice A0_5 l0_5.length c0_5, .int .i64 a0_6, .int .i64 a0_7, .int .i64 a0_8, .slice A0_9 l0_9.length c0_9, .slice A0_10 l0_10.length c0_10, .slice A0_11 l0_11.length c0_11, .slice A0_12 l0_12.length c0_12] 51 (0, 0)) (kZ BK385.out)) : gb386 ≠ gb385)); clear BK385; clear HB; have BK385 := n0_; have HB := n1_; have BK386 := n2_; have GW386 := n3_; have GE386 := n4_; have NB385_386 := n5_; have NB386_385 := n6_; clear n0_ n1_ n2_ n3_ n4_ n5_ n6_; clear hb hbox hg; have hnb25 := NB385_386.out; have hnc25 := NB386_385.out; have hcz26_0 := bc0 BK385.out; have hcz26_1 := bc1 BK385.out; have hcz26_2 := bc2 BK385.out; have hcz26_3 := bc3 BK385.out; have hcz26_4 := bc4 BK385.out; have hcz26_5 := bc5 BK385.out; have hcz26_6 := bc6 BK385.out; have hcz26_7 := bc7 BK385.out; have hcz26_8 := bc8 BK385.out; have hcz26_9 := bc9 BK385.out; have hcz26_10 : w24.cell? ⟨gb385, 10, none⟩ = some (.slice A0_10 l0_10.length c0_10) := (blk_cell BK385.out 10).trans rfl; have hcz26_11 : w24.cell? ⟨gb385, 11, none⟩ = some (.slice A0_11 l0_11.length c0_11) := (blk_cell BK385.out 11).trans rfl; have hcz26_12 : w24.cell? ⟨gb385, 12, none⟩ = some (.slice A0_12 l0_12.length c0_12) := (blk_cell BK385.out 12).trans rfl; have hfz26_0 := blk_frozen BK385.out 0; have hfz26_1 := blk_frozen BK385.out 1; have hfz26_2 := blk_frozen BK385.out 2; have hfz26_3 := blk_frozen BK385.out 3; have hfz26_4 := blk_frozen BK385.out 4; have hfz26_5 := blk_frozen BK385.out 5; have hfz26_6 := blk_frozen BK385.out 6; have hfz26_7 := blk_frozen BK385.out 7; have hfz26_8 := blk_frozen BK385.out 8; have hfz26_9 := blk_frozen BK385.out 9; have hfz26_10 := blk_frozen BK385.out 10; have hfz26_11 := blk_frozen BK385.out 11; have hfz26_12 := blk_frozen BK385.out 12; have hcz27_0 := bc0 BK386.out; have hcz27_1 := bc1 BK386.out; have hcz27_2 := bc2 BK386.out; have hcz27_3 := bc3 BK386.out; have hcz27_4 := bc4 BK386.out; have hcz27_5 := bc5 BK386.out; have hcz27_6 := bc6 BK386.out; have hcz27_7 := bc7 BK386.out; have hcz27_8 := bc8 BK386.out; have hcz27_9 := bc9 BK386.out; have hcz27_10 : w24.cell? ⟨gb386, 10, none⟩ = some (.slice A1_10 l1_10.length c1_10) := (blk_cell BK386.out 10).trans rfl; have hcz27_11 : w24.cell? ⟨gb386, 11, none⟩ = some (.slice A1_11 l1_11.length c1_11) := (blk_cell BK386.out 11).trans rfl; have hcz27_12 : w24.cell? ⟨gb386, 12, none⟩ = some (.slice A1_12 l1_12.length c1_12) := (blk_cell BK386.out 12).trans rfl; have hfz27_0 := blk_frozen BK386.out 0; have hfz27_1 := blk_frozen BK386.out 1; have hfz27_2 := blk_frozen BK386.out 2; have hfz27_3 := blk_frozen BK386.out 3; have hfz27_4 := blk_frozen BK386.out 4; have hfz27_5 := blk_frozen BK386.out 5; have hfz27_6 := blk_frozen BK386.out 6; have hfz27_7 := blk_frozen BK386.out 7; have hfz27_8 := blk_frozen BK386.out 8; have hfz27_9 := blk_frozen BK386.out 9; have hfz27_10 := blk_frozen BK386.out 10; have hfz27_11 := blk_frozen BK386.out 11; have hfz27_12 := blk_frozen BK386.out 12) | ((with_reducible refine gate_callee (f := 41) rfl ?_); refine goesL_ (some 9) rfl rfl Try.func41 (by kernel_rfl) rfl #[.agg #[.slice A0_0 l0_0.length c0_0, .slice A0_1 l0_1.length c0_1], .agg #[.slice A1_0 l1_0.length c1_0, .slice A1_1 l1_1.length c1_1]] rfl gZ ?_; (with_reducible refine (laws_eqNetwork.calls k _ _ l0_0 _ _ l0_1 _ _ l1_0 _ _ l1_1 true _ ?side1 ?side2 ?side3 ?side4 ?side5 ?side6 ?side7 ?side8 A3.out).mono ?_); (case side1 => repeat (first | exact (Kd.C_below HR0_0.out HB.out) | (with_reducible refine Kd.C_alloc ?_ _) | (with_reducible refine Kd.C_drewN ?_ _) | (with_reducible refine Kd.C_drew ?_))); (case side2 => exact HC0_0.out); (case side3 => repeat (first | exact (Kd.C_below HR0_1.out HB.out) | (with_reducible refine Kd.C_alloc ?_ _) | (with_reducible refine Kd.C_drewN ?_ _) | (with_reducible refine Kd.C_drew ?_))); (case side4 => exact HC0_1.out); (case side5 => repeat (first | exact (Kd.C_below HR1_0.out HB.out) | (with_reducible refine Kd.C_alloc ?_ _) | (with_reducible refine Kd.C_drewN ?_ _) | (with_reducible refine Kd.C_drew ?_))); (case side6 => exact HC1_0.out); (case side7 => repeat (first | exact (Kd.C_below HR1_1.out HB.out) | (with_reducible refine Kd.C_alloc ?_ _) | (with_reducible refine Kd.C_drewN ?_ _) | (with_reducible refine Kd.C_drew ?_))); (case side8 => exact HC1_1.out); rintro e w28 ⟨rfl, hb⟩; refine ⟨_, rfl, ?_⟩; have n0_ := Aside0.mk (blk_below (g := gb385) (o := .cells #[.slice A0_0 l0_0.length c0_0, .slice A0_1 l0_1.length c0_1, .slice A0_2 l0_2.length c0_2, .slice A0_3 l0_3.length c0_3, .slice A0_4 l0_4.length c0_4, .slice A0_5 l0_5.length c0_5, .int .i64 a0_6, .int .i64 a0_7, .int .i64 a0_8, .slice A0_9 l0_9.length c0_9, .slice A0_10 l0_10.length c0_10, .slice A0_11 l0_11.length c0_11, .slice A0_12 l0_12.length c0_12] 51 (0, 0)) (kZ BK385.out) hb); have n1_ := Aside0.mk (blk_below (g := gb386) (o := .cells #[.slice A1_0 l1_0.length c1_0, .slice A1_1 l1_1.length c1_1, .slice A1_2 l1_2.length c1_2, .slice A1_3 l1_3.length c1_3, .slice A1_4 l1_4.length c1_4, .slice A1_5 l1_5.length c1_5, .int .i64 a1_6, .int .i64 a1_7, .int .i64 a1_8, .slice A1_9 l1_9.length c1_9, .slice A1_10 l1_10.length c1_10, .slice A1_11 l1_11.length c1_11, .slice A1_12 l1_12.length c1_12] 51 (0, 0)) (kZ BK386.out) hb); have n2_ := Aside0.mk (below_step bZ hb); clear BK385; clear BK386; clear HB; have BK385 := n0_; have BK386 := n1_; have HB := n2_; clear n0_ n1_ n2_; (try clear hb); (try clear hb2); (try clear hk); (try clear hi); have hcz29_0 := bc0 BK385.out; have hcz29_1 := bc1 BK385.out; have hcz29_2 := bc2 BK385.out; have hcz29_3 := bc3 BK385.out; have hcz29_4 := bc4 BK385.out; have hcz29_5 := bc5 BK385.out; have hcz29_6 := bc6 BK385.out; have hcz29_7 := bc7 BK385.out; have hcz29_8 := bc8 BK385.out; have hcz29_9 := bc9 BK385.out; have hcz29_10 : w28.cell? ⟨gb385, 10, none⟩ = some (.slice A0_10 l0_10.length c0_10) := (blk_cell BK385.out 10).trans rfl; have hcz29_11 : w28.cell? ⟨gb385, 11, none⟩ = some (.slice A0_11 l0_11.length c0_11) := (blk_cell BK385.out 11).trans rfl; have hcz29_12 : w28.cell? ⟨gb385, 12, none⟩ = some (.slice A0_12 l0_12.length c0_12) := (blk_cell BK385.out 12).trans rfl; have hfz29_0 := blk_frozen BK385.out 0; have hfz29_1 := blk_frozen BK385.out 1; have hfz29_2 := blk_frozen BK385.out 2; have hfz29_3 := blk_frozen BK385.out 3; have hfz29_4 := blk_frozen BK385.out 4; have hfz29_5 := blk_frozen BK385.out 5; have hfz29_6 := blk_frozen BK385.out 6; have hfz29_7 := blk_frozen BK385.out 7; have hfz29_8 := blk_frozen BK385.out 8; have hfz29_9 := blk_frozen BK385.out 9; have hfz29_10 := blk_frozen BK385.out 10; have hfz29_11 := blk_frozen BK385.out 11; have hfz29_12 := blk_frozen BK385.out 12; have hcz30_0 := bc0 BK386.out; have hcz30_1 := bc1 BK386.out; have hcz30_2 := bc2 BK386.out; have hcz30_3 := bc3 BK386.out; have hcz30_4 := bc4 BK386.out; have hcz30_5 := bc5 BK386.out; have hcz30_6 := bc6 BK386.out; have hcz30_7 := bc7 BK386.out; have hcz30_8 := bc8 BK386.out; have hcz30_9 := bc9 BK386.out; have hcz30_10 : w28.cell? ⟨gb386, 10, none⟩ = some (.slice A1_10 l1_10.length c1_10) := (blk_cell BK386.out 10).trans rfl; have hcz30_11 : w28.cell? ⟨gb386, 11, none⟩ = some (.slice A1_11 l1_11.length c1_11) := (blk_cell BK386.out 11).trans rfl; have hcz30_12 : w28.cell? ⟨gb386, 12, none⟩ = some (.slice A1_12 l1_12.length c1_12) := (blk_cell BK386.out 12).trans rfl; have hfz30_0 := blk_frozen BK386.out 0; have hfz30_1 := blk_frozen BK386.out 1; have hfz30_2 := blk_frozen BK386.out 2; have hfz30_3 := blk_frozen BK386.out 3; have hfz30_4 := blk_frozen BK386.out 4; have hfz30_5 := blk_frozen BK386.out 5; have hfz30_6 := blk_frozen BK386.out 6; have hfz30_7 := blk_frozen BK386.out 7; have hfz30_8 := blk_frozen BK386.out 8; have hfz30_9 := blk_frozen BK386.out 9; have hfz30_10 := blk_frozen BK386.out 10; have hfz30_11 := blk_frozen BK386.out 11; have hfz30_12 := blk_frozen BK386.out 12) | ((with_reducible refine gate_callee (f := 42) rfl ?_); refine goesL_ (some 15) rfl rfl Try.func42 (by kernel_rfl) rfl #[.slice A0_2 l0_2.length c0_2, .slice A1_2 l1_2.length c1_2] rfl gZ ?_; (with_reducible refine (laws_eqInt64S.calls k _ _ l0_2 _ _ l1_2 true _ ?side1 ?side2 ?side3 ?side4 A5.out).mono ?_); (case side1 => repeat (first | exact (Kd.C_below HR0_2.out HB.out) | (with_reducible refine Kd.C_alloc ?_ _) | (with_reducible refine Kd.C_drewN ?_ _) | (with_reducible refine Kd.C_drew ?_))); (case side2 => exact HC0_2.out); (case side3 => repeat (first | exact (Kd.C_below HR1_2.out HB.out) | (with_reducible refine Kd.C_alloc ?_ _) | (with_reducible refine Kd.C_drewN ?_ _) | (with_reducible refine Kd.C_drew ?_))); (case side4 => exact HC1_2.out); rintro e w' ⟨rfl, ⟨nd, rfl⟩⟩; refine ⟨_, rfl, ?_⟩) | ((with_reducible refine gate_callee (f := 43) rfl ?_); refine goesL_ (some 21) rfl rfl Try.func43 (by kernel_rfl) rfl #[.slice A0_3 l0_3.length c0_3, .slice A1_3 l1_3.length c1_3] rfl gZ ?_; (with_reducible refine (laws_eqValveS.calls k _ _ l0_3 _ _ l1_3 true _ ?side1 ?side2 ?side3 ?side4 A7.out).mono ?_); (case side1 => repeat (first | exact (Kd.C_below HR0_3.out bZ) | (with_reducible refine Kd.C_alloc ?_ _) | (with_reducible refine Kd.C_drewN ?_ _) | (with_reducible refine Kd.C_drew ?_))); (case side2 => exact HC0_3.out); (case side3 => repeat (first | exact (Kd.C_below HR1_3.out bZ) | (with_reducible refine Kd.C_alloc ?_ _) | (with_reducible refine Kd.C_drewN ?_ _) | (with_reducible refine Kd.C_drew ?_))); (case side4 => exact HC1_3.out); rintro e w31 ⟨rfl, hb⟩; refine ⟨_, rfl, ?_⟩; have n0_ := Aside0.mk (blk_below (g := gb385) (o := .cells #[.slice A0_0 l0_0.length c0_0, .slice A0_1 l0_1.length c0_1, .slice A0_2 l0_2.length c0_2, .slice A0_3 l0_3.length c0_3, .slice A0_4 l0_4.length c0_4, .slice A0_5 l0_5.length c0_5, .int .i64 a0_6, .int .i64 a0_7, .int .i64 a0_8, .slice A0_9 l0_9.length c0_9, .slice A0_10 l0_10.length c0_10, .slice A0_11 l0_11.length c0_11, .slice A0_12 l0_12.length c0_12] 51 (0, 0)) (kZ BK385.out) hb); have n1_ := Aside0.mk (blk_below (g := gb386) (o := .cells #[.slice A1_0 l1_0.length c1_0, .slice A1_1 l1_1.length c1_1, .slice A1_2 l1_2.length c1_2, .slice A1_3 l1_3.length c1_3, .slice A1_4 l1_4.length c1_4, .slice A1_5 l1_5.length c1_5, .int .i64 a1_6, .int .i64 a1_7, .int .i64 a1_8, .slice A1_9 l1_9.length c1_9, .slice A1_10 l1_10.length c1_10, .slice A1_11 l1_11.length c1_11, .slice A1_12 l1_12.length c1_12] 51 (0, 0)) (kZ BK386.out) hb); have n2_ := Aside0.mk (below_step bZ hb); clear BK385; clear BK386; clear HB; have BK385 := n0_; have BK386 := n1_; have HB := n2_; clear n0_ n1_ n2_; (try clear hb); (try clear hb2); (try clear hk); (try clear hi); have hcz32_0 := bc0 BK385.out; have hcz32_1 := bc1 BK385.out; have hcz32_2 := bc2 BK385.out; have hcz32_3 := bc3 BK385.out; have hcz32_4 := bc4 BK385.out; have hcz32_5 := bc5 BK385.out; have hcz32_6 := bc6 BK385.out; have hcz32_7 := bc7 BK385.out; have hcz32_8 := bc8 BK385.out; have hcz32_9 := bc9 BK385.out; have hcz32_10 : w31.cell? ⟨gb385, 10, none⟩ = some (.slice A0_10 l0_10.length c0_10) := (blk_cell BK385.out 10).trans rfl; have hcz32_11 : w31.cell? ⟨gb385, 11, none⟩ = some (.slice A0_11 l0_11.length c0_11) := (blk_cell BK385.out 11).trans rfl; have hcz32_12 : w31.cell? ⟨gb385, 12, none⟩ = some (.slice A0_12 l0_12.length c0_12) := (blk_cell BK385.out 12).trans rfl; have hfz32_0 := blk_frozen BK385.out 0; have hfz32_1 := blk_frozen BK385.out 1; have hfz32_2 := blk_frozen BK385.out 2; have hfz32_3 := blk_frozen BK385.out 3; have hfz32_4 := blk_frozen BK385.out 4; have hfz32_5 := blk_frozen BK385.out 5; have hfz32_6 := blk_frozen BK385.out 6; have hfz32_7 := blk_frozen BK385.out 7; have hfz32_8 := blk_frozen BK385.out 8; have hfz32_9 := blk_frozen BK385.out 9; have hfz32_10 := blk_frozen BK385.out 10; have hfz32_11 := blk_frozen BK385.out 11; have hfz32_12 := blk_frozen BK385.out 12; have hcz33_0 := bc0 BK386.out; have hcz33_1 := bc1 BK386.out; have hcz33_2 := bc2 BK386.out; have hcz33_3 := bc3 BK386.out; have hcz33_4 := bc4 BK386.out; have hcz33_5 := bc5 BK386.out; have hcz33_6 := bc6 BK386.out; have hcz33_7 := bc7 BK386.out; have hcz33_8 := bc8 BK386.out; have hcz33_9 := bc9 BK386.out; have hcz33_10 : w31.cell? ⟨gb386, 10, none⟩ = some (.slice A1_10 l1_10.length c1_10) := (blk_cell BK386.out 10).trans rfl; have hcz33_11 : w31.cell? ⟨gb386, 11, none⟩ = some (.slice A1_11 l1_11.length c1_11) := (blk_cell BK386.out 11).trans rfl; have hcz33_12 : w31.cell? ⟨gb386, 12, none⟩ = some (.slice A1_12 l1_12.length c1_12) := (blk_cell BK386.out 12).trans rfl; have hfz33_0 := blk_frozen BK386.out 0; have hfz33_1 := blk_frozen BK386.out 1; have hfz33_2 := blk_frozen BK386.out 2; have hfz33_3 := blk_frozen BK386.out 3; have hfz33_4 := blk_frozen BK386.out 4; have hfz33_5 := blk_frozen BK386.out 5; have hfz33_6 := blk_frozen BK386.out 6; have hfz33_7 := blk_frozen BK386.out 7; have hfz33_8 := blk_frozen BK386.out 8; have hfz33_9 := blk_frozen BK386.out 9; have hfz33_10 := blk_frozen BK386.out 10; have hfz33_11 := blk_frozen BK386.out 11; have hfz33_12 := blk_frozen BK386.out 12) | ((with_reducible refine gate_callee (f := 44) rfl ?_); refine goesL_ (some 27) rfl rfl Try.func44 (by kernel_rfl) rfl #[.slice A0_4 l0_4.length c0_4, .slice A1_4 l1_4.length c1_4] rfl gZ ?_; (with_reducible refine (laws_eqPumpS.calls k _ _ l0_4 _ _ l1_4 true _ ?side1 ?side2 ?side3 ?side4 A9.out).mono ?_); (case side1 => repeat (first | exact (Kd.C_below HR0_4.out HB.out) | (with_reducible refine Kd.C_alloc ?_ _) | (with_reducible refine Kd.C_drewN ?_ _) | (with_reducible refine Kd.C_drew ?_))); (case side2 => exact HC0_4.out); (case side3 => repeat (first | exact (Kd.C_below HR1_4.out HB.out) | (with_reducible refine Kd.C_alloc ?_ _) | (with_reducible refine Kd.C_drewN ?_ _) | (with_reducible refine Kd.C_drew ?_))); (case side4 => exact HC1_4.out); rintro e w34 ⟨rfl, hb⟩; refine ⟨_, rfl, ?_⟩; have n0_ := Aside0.mk (blk_below (g := gb385) (o := .cells #[.slice A0_0 l0_0.length c0_0, .slice A0_1 l0_1.length c0_1, .slice A0_2 l0_2.length c0_2, .slice A0_3 l0_3.length c0_3, .slice A0_4 l0_4.length c0_4, .slice A0_5 l0_5.length c0_5, .int .i64 a0_6, .int .i64 a0_7, .int .i64 a0_8, .slice A0_9 l0_9.length c0_9, .slice A0_10 l0_10.length c0_10, .slice A0_11 l0_11.length c0_11, .slice A0_12 l0_12.length c0_12] 51 (0, 0)) (kZ BK385.out) hb); have n1_ := Aside0.mk (blk_below (g := gb386) (o := .cells #[.slice A1_0 l1_0.length c1_0, .slice A1_1 l1_1.length c1_1, .slice A1_2 l1_2.length c1_2, .slice A1_3 l1_3.length c1_3, .slice A1_4 l1_4.length c1_4, .slice A1_5 l1_5.length c1_5, .int .i64 a1_6, .int .i64 a1_7, .int .i64 a1_8, .slice A1_9 l1_9.length c1_9, .slice A1_10 l1_10.length c1_10, .slice A1_11 l1_11.length c1_11, .slice A1_12 l1_12.length c1_12] 51 (0, 0)) (kZ BK386.out) hb); have n2_ := Aside0.mk (below_step bZ hb); clear BK385; clear BK386; clear HB; have BK385 := n0_; have BK386 := n1_; have HB := n2_; clear n0_ n1_ n2_; (try clear hb); (try clear hb2); (try clear hk); (try clear hi); have hcz35_0 := bc0 BK385.out; have hcz35_1 := bc1 BK385.out; have hcz35_2 := bc2 BK385.out; have hcz35_3 := bc3 BK385.out; have hcz35_4 := bc4 BK385.out; have hcz35_5 := bc5 BK385.out; have hcz35_6 := bc6 BK385.out; have hcz35_7 := bc7 BK385.out; have hcz35_8 := bc8 BK385.out; have hcz35_9 := bc9 BK385.out; have hcz35_10 : w34.cell? ⟨gb385, 10, none⟩ = some (.slice A0_10 l0_10.length c0_10) := (blk_cell BK385.out 10).trans rfl; have hcz35_11 : w34.cell? ⟨gb385, 11, none⟩ = some (.slice A0_11 l0_11.length c0_11) := (blk_cell BK385.out 11).trans rfl; have hcz35_12 : w34.cell? ⟨gb385, 12, none⟩ = some (.slice A0_12 l0_12.length c0_12) := (blk_cell BK385.out 12).trans rfl; have hfz35_0 := blk_frozen BK385.out 0; have hfz35_1 := blk_frozen BK385.out 1; have hfz35_2 := blk_frozen BK385.out 2; have hfz35_3 := blk_frozen BK385.out 3; have hfz35_4 := blk_frozen BK385.out 4; have hfz35_5 := blk_frozen BK385.out 5; have hfz35_6 := blk_frozen BK385.out 6; have hfz35_7 := blk_frozen BK385.out 7; have hfz35_8 := blk_frozen BK385.out 8; have hfz35_9 := blk_frozen BK385.out 9; have hfz35_10 := blk_frozen BK385.out 10; have hfz35_11 := blk_frozen BK385.out 11; have hfz35_12 := blk_frozen BK385.out 12; have hcz36_0 := bc0 BK386.out; have hcz36_1 := bc1 BK386.out; have hcz36_2 := bc2 BK386.out; have hcz36_3 := bc3 BK386.out; have hcz36_4 := bc4 BK386.out; have hcz36_5 := bc5 BK386.out; have hcz36_6 := bc6 BK386.out; have hcz36_7 := bc7 BK386.out; have hcz36_8 := bc8 BK386.out; have hcz36_9 := bc9 BK386.out; have hcz36_10 : w34.cell? ⟨gb386, 10, none⟩ = some (.slice A1_10 l1_10.length c1_10) := (blk_cell BK386.out 10).trans rfl; have hcz36_11 : w34.cell? ⟨gb386, 11, none⟩ = some (.slice A1_11 l1_11.length c1_11) := (blk_cell BK386.out 11).trans rfl; have hcz36_12 : w34.cell? ⟨gb386, 12, none⟩ = some (.slice A1_12 l1_12.length c1_12) := (blk_cell BK386.out 12).trans rfl; have hfz36_0 := blk_frozen BK386.out 0; have hfz36_1 := blk_frozen BK386.out 1; have hfz36_2 := blk_frozen BK386.out 2; have hfz36_3 := blk_frozen BK386.out 3; have hfz36_4 := blk_frozen BK386.out 4; have hfz36_5 := blk_frozen BK386.out 5; have hfz36_6 := blk_frozen BK386.out 6; have hfz36_7 := blk_frozen BK386.out 7; have hfz36_8 := blk_frozen BK386.out 8; have hfz36_9 := blk_frozen BK386.out 9; have hfz36_10 := blk_frozen BK386.out 10; have hfz36_11 := blk_frozen BK386.out 11; have hfz36_12 := blk_frozen BK386.out 12) | ((with_reducible refine gate_callee (f := 45) rfl ?_); refine goesL_ (some 33) rfl rfl Try.func45 (by kernel_rfl) rfl #[.slice A0_5 l0_5.length c0_5, .slice A1_5 l1_5.length c1_5] rfl gZ ?_; (with_reducible refine (laws_eqSubstationS.calls k _ _ l0_5 _ _ l1_5 true _ ?side1 ?side2 ?side3 ?side4 A11.out).mono ?_); (case side1 => repeat (first | exact (Kd.C_below HR0_5.out HB.out) | (with_reducible refine Kd.C_alloc ?_ _) | (with_reducible refine Kd.C_drewN ?_ _) | (with_reducible refine Kd.C_drew ?_))); (case side2 => exact HC0_5.out); (case side3 => repeat (first | exact (Kd.C_below HR1_5.out HB.out) | (with_reducible refine Kd.C_alloc ?_ _) | (with_reducible refine Kd.C_drewN ?_ _) | (with_reducible refine Kd.C_drew ?_))); (case side4 => exact HC1_5.out); rintro e w37 ⟨rfl, hb⟩; refine ⟨_, rfl, ?_⟩; have n0_ := Aside0.mk (blk_below (g := gb385) (o := .cells #[.slice A0_0 l0_0.length c0_0, .slice A0_1 l0_1.length c0_1, .slice A0_2 l0_2.length c0_2, .slice A0_3 l0_3.length c0_3, .slice A0_4 l0_4.length c0_4, .slice A0_5 l0_5.length c0_5, .int .i64 a0_6, .int .i64 a0_7, .int .i64 a0_8, .slice A0_9 l0_9.length c0_9, .slice A0_10 l0_10.length c0_10, .slice A0_11 l0_11.length c0_11, .slice A0_12 l0_12.length c0_12] 51 (0, 0)) (kZ BK385.out) hb); have n1_ := Aside0.mk (blk_below (g := gb386) (o := .cells #[.slice A1_0 l1_0.length c1_0, .slice A1_1 l1_1.length c1_1, .slice A1_2 l1_2.length c1_2, .slice A1_3 l1_3.length c1_3, .slice A1_4 l1_4.length c1_4, .slice A1_5 l1_5.length c1_5, .int .i64 a1_6, .int .i64 a1_7, .int .i64 a1_8, .slice A1_9 l1_9.length c1_9, .slice A1_10 l1_10.length c1_10, .slice A1_11 l1_11.length c1_11, .slice A1_12 l1_12.length c1_12] 51 (0, 0)) (kZ BK386.out) hb); have n2_ := Aside0.mk (below_step bZ hb); clear BK385; clear BK386; clear HB; have BK385 := n0_; have BK386 := n1_; have HB := n2_; clear n0_ n1_ n2_; (try clear hb); (try clear hb2); (try clear hk); (try clear hi); have hcz38_0 := bc0 BK385.out; have hcz38_1 := bc1 BK385.out; have hcz38_2 := bc2 BK385.out; have hcz38_3 := bc3 BK385.out; have hcz38_4 := bc4 BK385.out; have hcz38_5 := bc5 BK385.out; have hcz38_6 := bc6 BK385.out; have hcz38_7 := bc7 BK385.out; have hcz38_8 := bc8 BK385.out; have hcz38_9 := bc9 BK385.out; have hcz38_10 : w37.cell? ⟨gb385, 10, none⟩ = some (.slice A0_10 l0_10.length c0_10) := (blk_cell BK385.out 10).trans rfl; have hcz38_11 : w37.cell? ⟨gb385, 11, none⟩ = some (.slice A0_11 l0_11.length c0_11) := (blk_cell BK385.out 11).trans rfl; have hcz38_12 : w37.cell? ⟨gb385, 12, none⟩ = some (.slice A0_12 l0_12.length c0_12) := (blk_cell BK385.out 12).trans rfl; have hfz38_0 := blk_frozen BK385.out 0; have hfz38_1 := blk_frozen BK385.out 1; have hfz38_2 := blk_frozen BK385.out 2; have hfz38_3 := blk_frozen BK385.out 3; have hfz38_4 := blk_frozen BK385.out 4; have hfz38_5 := blk_frozen BK385.out 5; have hfz38_6 := blk_frozen BK385.out 6; have hfz38_7 := blk_frozen BK385.out 7; have hfz38_8 := blk_frozen BK385.out 8; have hfz38_9 := blk_frozen BK385.out 9; have hfz38_10 := blk_frozen BK385.out 10; have hfz38_11 := blk_frozen BK385.out 11; have hfz38_12 := blk_frozen BK385.out 12; have hcz39_0 := bc0 BK386.out; have hcz39_1 := bc1 BK386.out; have hcz39_2 := bc2 BK386.out; have hcz39_3 := bc3 BK386.out; have hcz39_4 := bc4 BK386.out; have hcz39_5 := bc5 BK386.out; have hcz39_6 := bc6 BK386.out; have hcz39_7 := bc7 BK386.out; have hcz39_8 := bc8 BK386.out; have hcz39_9 := bc9 BK386.out; have hcz39_10 : w37.cell? ⟨gb386, 10, none⟩ = some (.slice A1_10 l1_10.length c1_10) := (blk_cell BK386.out 10).trans rfl; have hcz39_11 : w37.cell? ⟨gb386, 11, none⟩ = some (.slice A1_11 l1_11.length c1_11) := (blk_cell BK386.out 11).trans rfl; have hcz39_12 : w37.cell? ⟨gb386, 12, none⟩ = some (.slice A1_12 l1_12.length c1_12) := (blk_cell BK386.out 12).trans rfl; have hfz39_0 := blk_frozen BK386.out 0; have hfz39_1 := blk_frozen BK386.out 1; have hfz39_2 := blk_frozen BK386.out 2; have hfz39_3 := blk_frozen BK386.out 3; have hfz39_4 := blk_frozen BK386.out 4; have hfz39_5 := blk_frozen BK386.out 5; have hfz39_6 := blk_frozen BK386.out 6; have hfz39_7 := blk_frozen BK386.out 7; have hfz39_8 := blk_frozen BK386.out 8; have hfz39_9 := blk_frozen BK386.out 9; have hfz39_10 := blk_frozen BK386.out 10; have hfz39_11 := blk_frozen BK386.out 11; have hfz39_12 := blk_frozen BK386.out 12) | ((with_reducible refine gate_callee (f := 46) rfl ?_); refine goesL_ (some 39) rfl rfl Try.func46 (by kernel_rfl) rfl #[.agg #[.int .i64 a0_6, .int .i64 a0_7, .int .i64 a0_8], .agg #[.int .i64 a1_6, .int .i64 a1_7, .int .i64 a1_8]] rfl gZ ?_; (with_reducible refine (laws_eqTank.calls a0_6 a0_7 a0_8 a1_6 a1_7 a1_8 true _ A13.out).mono ?_); rintro e w40 ⟨rfl, hb⟩; refine ⟨_, rfl, ?_⟩; have n0_ := Aside0.mk (blk_below (g := gb385) (o := .cells #[.slice A0_0 l0_0.length c0_0, .slice A0_1 l0_1.length c0_1, .slice A0_2 l0_2.length c0_2, .slice A0_3 l0_3.length c0_3, .slice A0_4 l0_4.length c0_4, .slice A0_5 l0_5.length c0_5, .int .i64 a0_6, .int .i64 a0_7, .int .i64 a0_8, .slice A0_9 l0_9.length c0_9, .slice A0_10 l0_10.length c0_10, .slice A0_11 l0_11.length c0_11, .slice A0_12 l0_12.length c0_12] 51 (0, 0)) (kZ BK385.out) hb); have n1_ := Aside0.mk (blk_below (g := gb386) (o := .cells #[.slice A1_0 l1_0.length c1_0, .slice A1_1 l1_1.length c1_1, .slice A1_2 l1_2.length c1_2, .slice A1_3 l1_3.length c1_3, .slice A1_4 l1_4.length c1_4, .slice A1_5 l1_5.length c1_5, .int .i64 a1_6, .int .i64 a1_7, .int .i64 a1_8, .slice A1_9 l1_9.length c1_9, .slice A1_10 l1_10.length c1_10, .slice A1_11 l1_11.length c1_11, .slice A1_12 l1_12.length c1_12] 51 (0, 0)) (kZ BK386.out) hb); have n2_ := Aside0.mk (below_step bZ hb); clear BK385; clear BK386; clear HB; have BK385 := n0_; have BK386 := n1_; have HB := n2_; clear n0_ n1_ n2_; (try clear hb); (try clear hb2); (try clear hk); (try clear hi); have hcz41_0 := bc0 BK385.out; have hcz41_1 := bc1 BK385.out; have hcz41_2 := bc2 BK385.out; have hcz41_3 := bc3 BK385.out; have hcz41_4 := bc4 BK385.out; have hcz41_5 := bc5 BK385.out; have hcz41_6 := bc6 BK385.out; have hcz41_7 := bc7 BK385.out; have hcz41_8 := bc8 BK385.out; have hcz41_9 := bc9 BK385.out; have hcz41_10 : w40.cell? ⟨gb385, 10, none⟩ = some (.slice A0_10 l0_10.length c0_10) := (blk_cell BK385.out 10).trans rfl; have hcz41_11 : w40.cell? ⟨gb385, 11, none⟩ = some (.slice A0_11 l0_11.length c0_11) := (blk_cell BK385.out 11).trans rfl; have hcz41_12 : w40.cell? ⟨gb385, 12, none⟩ = some (.slice A0_12 l0_12.length c0_12) := (blk_cell BK385.out 12).trans rfl; have hfz41_0 := blk_frozen BK385.out 0; have hfz41_1 := blk_frozen BK385.out 1; have hfz41_2 := blk_frozen BK385.out 2; have hfz41_3 := blk_frozen BK385.out 3; have hfz41_4 := blk_frozen BK385.out 4; have hfz41_5 := blk_frozen BK385.out 5; have hfz41_6 := blk_frozen BK385.out 6; have hfz41_7 := blk_frozen BK385.out 7; have hfz41_8 := blk_frozen BK385.out 8; have hfz41_9 := blk_frozen BK385.out 9; have hfz41_10 := blk_frozen BK385.out 10; have hfz41_11 := blk_frozen BK385.out 11; have hfz41_12 := blk_frozen BK385.out 12; have hcz42_0 := bc0 BK386.out; have hcz42_1 := bc1 BK386.out; have hcz42_2 := bc2 BK386.out; have hcz42_3 := bc3 BK386.out; have hcz42_4 := bc4 BK386.out; have hcz42_5 := bc5 BK386.out; have hcz42_6 := bc6 BK386.out; have hcz42_7 := bc7 BK386.out; have hcz42_8 := bc8 BK386.out; have hcz42_9 := bc9 BK386.out; have hcz42_10 : w40.cell? ⟨gb386, 10, none⟩ = some (.slice A1_10 l1_10.length c1_10) := (blk_cell BK386.out 10).trans rfl; have hcz42_11 : w40.cell? ⟨gb386, 11, none⟩ = some (.slice A1_11 l1_11.length c1_11) := (blk_cell BK386.out 11).trans rfl; have hcz42_12 : w40.cell? ⟨gb386, 12, none⟩ = some (.slice A1_12 l1_12.length c1_12) := (blk_cell BK386.out 12).trans rfl; have hfz42_0 := blk_frozen BK386.out 0; have hfz42_1 := blk_frozen BK386.out 1; have hfz42_2 := blk_frozen BK386.out 2; have hfz42_3 := blk_frozen BK386.out 3; have hfz42_4 := blk_frozen BK386.out 4; have hfz42_5 := blk_frozen BK386.out 5; have hfz42_6 := blk_frozen BK386.out 6; have hfz42_7 := blk_frozen BK386.out 7; have hfz42_8 := blk_frozen BK386.out 8; have hfz42_9 := blk_frozen BK386.out 9; have hfz42_10 := blk_frozen BK386.out 10; have hfz42_11 := blk_frozen BK386.out 11; have hfz42_12 := blk_frozen BK386.out 12) | ((with_reducible refine gate_callee (f := 47) rfl ?_); refine goesL_ (some 45) rfl rfl Try.func47 (by kernel_rfl) rfl #[.slice A0_9 l0_9.length c0_9, .slice A1_9 l1_9.length c1_9] rfl gZ ?_; (with_reducible refine (laws_eqFuelS.calls k _ _ l0_9 _ _ l1_9 true _ ?side1 ?side2 ?side3 ?side4 A15.out).mono ?_); (case side1 => repeat (first | exact (Kd.C_below HR0_9.out HB.out) | (with_reducible refine Kd.C_alloc ?_ _) | (with_reducible refine Kd.C_drewN ?_ _) | (with_reducible refine Kd.C_drew ?_))); (case side2 => exact HC0_9.out); (case side3 => repeat (first | exact (Kd.C_below HR1_9.out HB.out) | (with_reducible refine Kd.C_alloc ?_ _) | (with_reducible refine Kd.C_drewN ?_ _) | (with_reducible refine Kd.C_drew ?_))); (case side4 => exact HC1_9.out); rintro e w43 ⟨rfl, hb⟩; refine ⟨_, rfl, ?_⟩; have n0_ := Aside0.mk (blk_below (g := gb385) (o := .cells #[.slice A0_0 l0_0.length c0_0, .slice A0_1 l0_1.length c0_1, .slice A0_2 l0_2.length c0_2, .slice A0_3 l0_3.length c0_3, .slice A0_4 l0_4.length c0_4, .slice A0_5 l0_5.length c0_5, .int .i64 a0_6, .int .i64 a0_7, .int .i64 a0_8, .slice A0_9 l0_9.length c0_9, .slice A0_10 l0_10.length c0_10, .slice A0_11 l0_11.length c0_11, .slice A0_12 l0_12.length c0_12] 51 (0, 0)) (kZ BK385.out) hb); have n1_ := Aside0.mk (blk_below (g := gb386) (o := .cells #[.slice A1_0 l1_0.length c1_0, .slice A1_1 l1_1.length c1_1, .slice A1_2 l1_2.length c1_2, .slice A1_3 l1_3.length c1_3, .slice A1_4 l1_4.length c1_4, .slice A1_5 l1_5.length c1_5, .int .i64 a1_6, .int .i64 a1_7, .int .i64 a1_8, .slice A1_9 l1_9.length c1_9, .slice A1_10 l1_10.length c1_10, .slice A1_11 l1_11.length c1_11, .slice A1_12 l1_12.length c1_12] 51 (0, 0)) (kZ BK386.out) hb); have n2_ := Aside0.mk (below_step bZ hb); clear BK385; clear BK386; clear HB; have BK385 := n0_; have BK386 := n1_; have HB := n2_; clear n0_ n1_ n2_; (try clear hb); (try clear hb2); (try clear hk); (try clear hi); have hcz44_0 := bc0 BK385.out; have hcz44_1 := bc1 BK385.out; have hcz44_2 := bc2 BK385.out; have hcz44_3 := bc3 BK385.out; have hcz44_4 := bc4 BK385.out; have hcz44_5 := bc5 BK385.out; have hcz44_6 := bc6 BK385.out; have hcz44_7 := bc7 BK385.out; have hcz44_8 := bc8 BK385.out; have hcz44_9 := bc9 BK385.out; have hcz44_10 : w43.cell? ⟨gb385, 10, none⟩ = some (.slice A0_10 l0_10.length c0_10) := (blk_cell BK385.out 10).trans rfl; have hcz44_11 : w43.cell? ⟨gb385, 11, none⟩ = some (.slice A0_11 l0_11.length c0_11) := (blk_cell BK385.out 11).trans rfl; have hcz44_12 : w43.cell? ⟨gb385, 12, none⟩ = some (.slice A0_12 l0_12.length c0_12) := (blk_cell BK385.out 12).trans rfl; have hfz44_0 := blk_frozen BK385.out 0; have hfz44_1 := blk_frozen BK385.out 1; have hfz44_2 := blk_frozen BK385.out 2; have hfz44_3 := blk_frozen BK385.out 3; have hfz44_4 := blk_frozen BK385.out 4; have hfz44_5 := blk_frozen BK385.out 5; have hfz44_6 := blk_frozen BK385.out 6; have hfz44_7 := blk_frozen BK385.out 7; have hfz44_8 := blk_frozen BK385.out 8; have hfz44_9 := blk_frozen BK385.out 9; have hfz44_10 := blk_frozen BK385.out 10; have hfz44_11 := blk_frozen BK385.out 11; have hfz44_12 := blk_frozen BK385.out 12; have hcz45_0 := bc0 BK386.out; have hcz45_1 := bc1 BK386.out; have hcz45_2 := bc2 BK386.out; have hcz45_3 := bc3 BK386.out; have hcz45_4 := bc4 BK386.out; have hcz45_5 := bc5 BK386.out; have hcz45_6 := bc6 BK386.out; have hcz45_7 := bc7 BK386.out; have hcz45_8 := bc8 BK386.out; have hcz45_9 := bc9 BK386.out; have hcz45_10 : w43.cell? ⟨gb386, 10, none⟩ = some (.slice A1_10 l1_10.length c1_10) := (blk_cell BK386.out 10).trans rfl; have hcz45_11 : w43.cell? ⟨gb386, 11, none⟩ = some (.slice A1_11 l1_11.length c1_11) := (blk_cell BK386.out 11).trans rfl; have hcz45_12 : w43.cell? ⟨gb386, 12, none⟩ = some (.slice A1_12 l1_12.length c1_12) := (blk_cell BK386.out 12).trans rfl; have hfz45_0 := blk_frozen BK386.out 0; have hfz45_1 := blk_frozen BK386.out 1; have hfz45_2 := blk_frozen BK386.out 2; have hfz45_3 := blk_frozen BK386.out 3; have hfz45_4 := blk_frozen BK386.out 4; have hfz45_5 := blk_frozen BK386.out 5; have hfz45_6 := blk_frozen BK386.out 6; have hfz45_7 := blk_frozen BK386.out 7; have hfz45_8 := blk_frozen BK386.out 8; have hfz45_9 := blk_frozen BK386.out 9; have hfz45_10 := blk_frozen BK386.out 10; have hfz45_11 := blk_frozen BK386.out 11; have hfz45_12 := blk_frozen BK386.out 12) | ((with_reducible refine gate_callee (f := 48) rfl ?_); refine goesL_ (some 51) rfl rfl Try.func48 (by kernel_rfl) rfl #[.slice A0_10 l0_10.length c0_10, .slice A1_10 l1_10.length c1_10] rfl gZ ?_; (with_reducible refine (laws_eqRepairS.calls k _ _ l0_10 _ _ l1_10 true _ ?side1 ?side2 ?side3 ?side4 A17.out).mono ?_); (case side1 => repeat (first | exact (Kd.C_below HR0_10.out HB.out) | (with_reducible refine Kd.C_alloc ?_ _) | (with_reducible refine Kd.C_drewN ?_ _) | (with_reducible refine Kd.C_drew ?_))); (case side2 => exact HC0_10.out); (case side3 => repeat (first | exact (Kd.C_below HR1_10.out HB.out) | (with_reducible refine Kd.C_alloc ?_ _) | (with_reducible refine Kd.C_drewN ?_ _) | (with_reducible refine Kd.C_drew ?_))); (case side4 => exact HC1_10.out); rintro e w46 ⟨rfl, hb⟩; refine ⟨_, rfl, ?_⟩; have n0_ := Aside0.mk (blk_below (g := gb385) (o := .cells #[.slice A0_0 l0_0.length c0_0, .slice A0_1 l0_1.length c0_1, .slice A0_2 l0_2.length c0_2, .slice A0_3 l0_3.length c0_3, .slice A0_4 l0_4.length c0_4, .slice A0_5 l0_5.length c0_5, .int .i64 a0_6, .int .i64 a0_7, .int .i64 a0_8, .slice A0_9 l0_9.length c0_9, .slice A0_10 l0_10.length c0_10, .slice A0_11 l0_11.length c0_11, .slice A0_12 l0_12.length c0_12] 51 (0, 0)) (kZ BK385.out) hb); have n1_ := Aside0.mk (blk_below (g := gb386) (o := .cells #[.slice A1_0 l1_0.length c1_0, .slice A1_1 l1_1.length c1_1, .slice A1_2 l1_2.length c1_2, .slice A1_3 l1_3.length c1_3, .slice A1_4 l1_4.length c1_4, .slice A1_5 l1_5.length c1_5, .int .i64 a1_6, .int .i64 a1_7, .int .i64 a1_8, .slice A1_9 l1_9.length c1_9, .slice A1_10 l1_10.length c1_10, .slice A1_11 l1_11.length c1_11, .slice A1_12 l1_12.length c1_12] 51 (0, 0)) (kZ BK386.out) hb); have n2_ := Aside0.mk (below_step bZ hb); clear BK385; clear BK386; clear HB; have BK385 := n0_; have BK386 := n1_; have HB := n2_; clear n0_ n1_ n2_; (try clear hb); (try clear hb2); (try clear hk); (try clear hi); have hcz47_0 := bc0 BK385.out; have hcz47_1 := bc1 BK385.out; have hcz47_2 := bc2 BK385.out; have hcz47_3 := bc3 BK385.out; have hcz47_4 := bc4 BK385.out; have hcz47_5 := bc5 BK385.out; have hcz47_6 := bc6 BK385.out; have hcz47_7 := bc7 BK385.out; have hcz47_8 := bc8 BK385.out; have hcz47_9 := bc9 BK385.out; have hcz47_10 : w46.cell? ⟨gb385, 10, none⟩ = some (.slice A0_10 l0_10.length c0_10) := (blk_cell BK385.out 10).trans rfl; have hcz47_11 : w46.cell? ⟨gb385, 11, none⟩ = some (.slice A0_11 l0_11.length c0_11) := (blk_cell BK385.out 11).trans rfl; have hcz47_12 : w46.cell? ⟨gb385, 12, none⟩ = some (.slice A0_12 l0_12.length c0_12) := (blk_cell BK385.out 12).trans rfl; have hfz47_0 := blk_frozen BK385.out 0; have hfz47_1 := blk_frozen BK385.out 1; have hfz47_2 := blk_frozen BK385.out 2; have hfz47_3 := blk_frozen BK385.out 3; have hfz47_4 := blk_frozen BK385.out 4; have hfz47_5 := blk_frozen BK385.out 5; have hfz47_6 := blk_frozen BK385.out 6; have hfz47_7 := blk_frozen BK385.out 7; have hfz47_8 := blk_frozen BK385.out 8; have hfz47_9 := blk_frozen BK385.out 9; have hfz47_10 := blk_frozen BK385.out 10; have hfz47_11 := blk_frozen BK385.out 11; have hfz47_12 := blk_frozen BK385.out 12; have hcz48_0 := bc0 BK386.out; have hcz48_1 := bc1 BK386.out; have hcz48_2 := bc2 BK386.out; have hcz48_3 := bc3 BK386.out; have hcz48_4 := bc4 BK386.out; have hcz48_5 := bc5 BK386.out; have hcz48_6 := bc6 BK386.out; have hcz48_7 := bc7 BK386.out; have hcz48_8 := bc8 BK386.out; have hcz48_9 := bc9 BK386.out; have hcz48_10 : w46.cell? ⟨gb386, 10, none⟩ = some (.slice A1_10 l1_10.length c1_10) := (blk_cell BK386.out 10).trans rfl; have hcz48_11 : w46.cell? ⟨gb386, 11, none⟩ = some (.slice A1_11 l1_11.length c1_11) := (blk_cell BK386.out 11).trans rfl; have hcz48_12 : w46.cell? ⟨gb386, 12, none⟩ = some (.slice A1_12 l1_12.length c1_12) := (blk_cell BK386.out 12).trans rfl; have hfz48_0 := blk_frozen BK386.out 0; have hfz48_1 := blk_frozen BK386.out 1; have hfz48_2 := blk_frozen BK386.out 2; have hfz48_3 := blk_frozen BK386.out 3; have hfz48_4 := blk_frozen BK386.out 4; have hfz48_5 := blk_frozen BK386.out 5; have hfz48_6 := blk_frozen BK386.out 6; have hfz48_7 := blk_frozen BK386.out 7; have hfz48_8 := blk_frozen BK386.out 8; have hfz48_9 := blk_frozen BK386.out 9; have hfz48_10 := blk_frozen BK386.out 10; have hfz48_11 := blk_frozen BK386.out 11; have hfz48_12 := blk_frozen BK386.out 12) | ((with_reducible refine gate_callee (f := 49) rfl ?_); refine goesL_ (some 57) rfl rfl Try.func49 (by kernel_rfl) rfl #[.slice A0_11 l0_11.length c0_11, .slice A1_11 l1_11.length c1_11] rfl gZ ?_; (with_reducible refine (laws_eqTenantS.calls k _ _ l0_11 _ _ l1_11 true _ ?side1 ?side2 ?side3 ?side4 A19.out).mono ?_); (case side1 => repeat (first | exact (Kd.C_below HR0_11.out HB.out) | (with_reducible refine Kd.C_alloc ?_ _) | (with_reducible refine Kd.C_drewN ?_ _) | (with_reducible refine Kd.C_drew ?_))); (case side2 => exact HC0_11.out); (case side3 => repeat (first | exact (Kd.C_below HR1_11.out HB.out) | (with_reducible refine Kd.C_alloc ?_ _) | (with_reducible refine Kd.C_drewN ?_ _) | (with_reducible refine Kd.C_drew ?_))); (case side4 => exact HC1_11.out); rintro e w49 ⟨rfl, hb⟩; refine ⟨_, rfl, ?_⟩; have n0_ := Aside0.mk (blk_below (g := gb385) (o := .cells #[.slice A0_0 l0_0.length c0_0, .slice A0_1 l0_1.length c0_1, .slice A0_2 l0_2.length c0_2, .slice A0_3 l0_3.length c0_3, .slice A0_4 l0_4.length c0_4, .slice A0_5 l0_5.length c0_5, .int .i64 a0_6, .int .i64 a0_7, .int .i64 a0_8, .slice A0_9 l0_9.length c0_9, .slice A0_10 l0_10.length c0_10, .slice A0_11 l0_11.length c0_11, .slice A0_12 l0_12.length c0_12] 51 (0, 0)) (kZ BK385.out) hb); have n1_ := Aside0.mk (blk_below (g := gb386) (o := .cells #[.slice A1_0 l1_0.length c1_0, .slice A1_1 l1_1.length c1_1, .slice A1_2 l1_2.length c1_2, .slice A1_3 l1_3.length c1_3, .slice A1_4 l1_4.length c1_4, .slice A1_5 l1_5.length c1_5, .int .i64 a1_6, .int .i64 a1_7, .int .i64 a1_8, .slice A1_9 l1_9.length c1_9, .slice A1_10 l1_10.length c1_10, .slice A1_11 l1_11.length c1_11, .slice A1_12 l1_12.length c1_12] 51 (0, 0)) (kZ BK386.out) hb); have n2_ := Aside0.mk (below_step bZ hb); clear BK385; clear BK386; clear HB; have BK385 := n0_; have BK386 := n1_; have HB := n2_; clear n0_ n1_ n2_; (try clear hb); (try clear hb2); (try clear hk); (try clear hi); have hcz50_0 := bc0 BK385.out; have hcz50_1 := bc1 BK385.out; have hcz50_2 := bc2 BK385.out; have hcz50_3 := bc3 BK385.out; have hcz50_4 := bc4 BK385.out; have hcz50_5 := bc5 BK385.out; have hcz50_6 := bc6 BK385.out; have hcz50_7 := bc7 BK385.out; have hcz50_8 := bc8 BK385.out; have hcz50_9 := bc9 BK385.out; have hcz50_10 : w49.cell? ⟨gb385, 10, none⟩ = some (.slice A0_10 l0_10.length c0_10) := (blk_cell BK385.out 10).trans rfl; have hcz50_11 : w49.cell? ⟨gb385, 11, none⟩ = some (.slice A0_11 l0_11.length c0_11) := (blk_cell BK385.out 11).trans rfl; have hcz50_12 : w49.cell? ⟨gb385, 12, none⟩ = some (.slice A0_12 l0_12.length c0_12) := (blk_cell BK385.out 12).trans rfl; have hfz50_0 := blk_frozen BK385.out 0; have hfz50_1 := blk_frozen BK385.out 1; have hfz50_2 := blk_frozen BK385.out 2; have hfz50_3 := blk_frozen BK385.out 3; have hfz50_4 := blk_frozen BK385.out 4; have hfz50_5 := blk_frozen BK385.out 5; have hfz50_6 := blk_frozen BK385.out 6; have hfz50_7 := blk_frozen BK385.out 7; have hfz50_8 := blk_frozen BK385.out 8; have hfz50_9 := blk_frozen BK385.out 9; have hfz50_10 := blk_frozen BK385.out 10; have hfz50_11 := blk_frozen BK385.out 11; have hfz50_12 := blk_frozen BK385.out 12; have hcz51_0 := bc0 BK386.out; have hcz51_1 := bc1 BK386.out; have hcz51_2 := bc2 BK386.out; have hcz51_3 := bc3 BK386.out; have hcz51_4 := bc4 BK386.out; have hcz51_5 := bc5 BK386.out; have hcz51_6 := bc6 BK386.out; have hcz51_7 := bc7 BK386.out; have hcz51_8 := bc8 BK386.out; have hcz51_9 := bc9 BK386.out; have hcz51_10 : w49.cell? ⟨gb386, 10, none⟩ = some (.slice A1_10 l1_10.length c1_10) := (blk_cell BK386.out 10).trans rfl; have hcz51_11 : w49.cell? ⟨gb386, 11, none⟩ = some (.slice A1_11 l1_11.length c1_11) := (blk_cell BK386.out 11).trans rfl; have hcz51_12 : w49.cell? ⟨gb386, 12, none⟩ = some (.slice A1_12 l1_12.length c1_12) := (blk_cell BK386.out 12).trans rfl; have hfz51_0 := blk_frozen BK386.out 0; have hfz51_1 := blk_frozen BK386.out 1; have hfz51_2 := blk_frozen BK386.out 2; have hfz51_3 := blk_frozen BK386.out 3; have hfz51_4 := blk_frozen BK386.out 4; have hfz51_5 := blk_frozen BK386.out 5; have hfz51_6 := blk_frozen BK386.out 6; have hfz51_7 := blk_frozen BK386.out 7; have hfz51_8 := blk_frozen BK386.out 8; have hfz51_9 := blk_frozen BK386.out 9; have hfz51_10 := blk_frozen BK386.out 10; have hfz51_11 := blk_frozen BK386.out 11; have hfz51_12 := blk_frozen BK386.out 12) | ((with_reducible refine gate_callee (f := 50) rfl ?_); refine goesL_ (some 63) rfl rfl Try.func50 (by kernel_rfl) rfl #[.slice A0_12 l0_12.length c0_12, .slice A1_12 l1_12.length c1_12] rfl gZ ?_; (with_reducible refine (laws_eqDutyS.calls k _ _ l0_12 _ _ l1_12 true _ ?side1 ?side2 ?side3 ?side4 A21.out).mono ?_); (case side1 => repeat (first | exact (Kd.C_below HR0_12.out HB.out) | (with_reducible refine Kd.C_alloc ?_ _) | (with_reducible refine Kd.C_drewN ?_ _) | (with_reducible refine Kd.C_drew ?_))); (case side2 => exact HC0_12.out); (case side3 => repeat (first | exact (Kd.C_below HR1_12.out HB.out) | (with_reducible refine Kd.C_alloc ?_ _) | (with_reducible refine Kd.C_drewN ?_ _) | (with_reducible refine Kd.C_drew ?_))); (case side4 => exact HC1_12.out); rintro e w52 ⟨rfl, hb⟩; refine ⟨_, rfl, ?_⟩; have n0_ := Aside0.mk (blk_below (g := gb385) (o := .cells #[.slice A0_0 l0_0.length c0_0, .slice A0_1 l0_1.length c0_1, .slice A0_2 l0_2.length c0_2, .slice A0_3 l0_3.length c0_3, .slice A0_4 l0_4.length c0_4, .slice A0_5 l0_5.length c0_5, .int .i64 a0_6, .int .i64 a0_7, .int .i64 a0_8, .slice A0_9 l0_9.length c0_9, .slice A0_10 l0_10.length c0_10, .slice A0_11 l0_11.length c0_11, .slice A0_12 l0_12.length c0_12] 51 (0, 0)) (kZ BK385.out) hb); have n1_ := Aside0.mk (blk_below (g := gb386) (o := .cells #[.slice A1_0 l1_0.length c1_0, .slice A1_1 l1_1.length c1_1, .slice A1_2 l1_2.length c1_2, .slice A1_3 l1_3.length c1_3, .slice A1_4 l1_4.length c1_4, .slice A1_5 l1_5.length c1_5, .int .i64 a1_6, .int .i64 a1_7, .int .i64 a1_8, .slice A1_9 l1_9.length c1_9, .slice A1_10 l1_10.length c1_10, .slice A1_11 l1_11.length c1_11, .slice A1_12 l1_12.length c1_12] 51 (0, 0)) (kZ BK386.out) hb); have n2_ := Aside0.mk (below_step bZ hb); clear BK385; clear BK386; clear HB; have BK385 := n0_; have BK386 := n1_; have HB := n2_; clear n0_ n1_ n2_; (try clear hb); (try clear hb2); (try clear hk); (try clear hi)))
           go_ret
           exact ⟨eZ, bZ⟩
          ·replace c22 := Bool.eq_false_iff.mpr c22
           subst c22
           have H1 : (none) = some r := by rw [if_neg (show ¬ (false = true) by decide)] at H; exact H
           clear H
           have H := H1
           clear H1
           exact absurd H (by simp)
         ·replace c20 := Bool.eq_false_iff.mpr c20
          subst c20
          have H1 : (none) = some r := by rw [if_neg (show ¬ (false = true) by decide)] at H; exact H
          clear H
          have H := H1
          clear H1
          exact absurd H (by simp)
        ·replace c18 := Bool.eq_false_iff.mpr c18
         subst c18
         have H1 : (none) = some r := by rw [if_neg (show ¬ (false = true) by decide)] at H; exact H
         clear H
         have H := H1
         clear H1
         exact absurd H (by simp)
       ·replace c16 := Bool.eq_false_iff.mpr c16
        subst c16
        have H1 : (none) = some r := by rw [if_neg (show ¬ (false = true) by decide)] at H; exact H
        clear H
        have H := H1
        clear H1
        exact absurd H (by simp)
      ·replace c14 := Bool.eq_false_iff.mpr c14
       subst c14
       have H1 : (none) = some r := by rw [if_neg (show ¬ (false = true) by decide)] at H; exact H
       clear H
       have H := H1
       clear H1
       exact absurd H (by simp)
     ·replace c12 := Bool.eq_false_iff.mpr c12
      subst c12
      have H1 : (none) = some r := by rw [if_neg (show ¬ (false = true) by decide)] at H; exact H
      clear H
      have H := H1
      clear H1
      exact absurd H (by simp)
    ·replace c10 := Bool.eq_false_iff.mpr c10
     subst c10
     have H1 : (none) = some r := by rw [if_neg (show ¬ (false = true) by decide)] at H; exact H
     clear H
     have H := H1
     clear H1
     exact absurd H (by simp)
   ·replace c8 := Bool.eq_false_iff.mpr c8
    subst c8
    have H1 : (none) = some r := by rw [if_neg (show ¬ (false = true) by decide)] at H; exact H
    clear H
    have H := H1
    clear H1
    exact absurd H (by simp)
  ·replace c6 := Bool.eq_false_iff.mpr c6
   subst c6
   have H1 : (none) = some r := by rw [if_neg (show ¬ (false = true) by decide)] at H; exact H
   clear H
   have H := H1
   clear H1
   exact absurd H (by simp)
 ·replace c4 := Bool.eq_false_iff.mpr c4
  subst c4
  have H1 : (none) = some r := by rw [if_neg (show ¬ (false = true) by decide)] at H; exact H
  clear H
  have H := H1
  clear H1
  exact absurd H (by simp)
end Go.Proofs.Ytmfhncjkfhdlcaa.XM
end
