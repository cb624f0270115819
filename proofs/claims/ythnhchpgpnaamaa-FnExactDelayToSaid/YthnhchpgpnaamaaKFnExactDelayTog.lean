/- The law FnExactDelayTo: part 6 of its texts, joined (wip/pack.py). -/
import Derived.Test.YthnhchpgpnaamaaKFnExactDelayToa
import Derived.Test.YthnhchpgpnaamaaKFnExactDelayTob
import Derived.Test.YthnhchpgpnaamaaKFnExactDelayToc
import Derived.Test.YthnhchpgpnaamaaKFnExactDelayTod
import Derived.Test.YthnhchpgpnaamaaKFnExactDelayToe
import Derived.Test.YthnhchpgpnaamaaKFnExactDelayTof

section
namespace Go.Proofs.Ythnhchpgpnaamaa.XG
open Go.RowKit Go.Proofs.YthnhchpgpnaamaaW.PrintWords Go.Proofs.YthnhchpgpnaamaaW.PrintLast Go.Proofs.YthnhchpgpnaamaaW.PrintMore
attribute [local go_sem] run_eql_slice_nil binOp_string_gtr' binOp_string_leq' binOp_string_geq' max2_int min2_int max_two min_two max_three min_three max_four min_four   -- for this text's walks alone
set_option linter.unusedVariables false
set_option linter.unusedSimpArgs false
mutual
def impl_Network_reached.l0 : Nat → List Int → List Int → Int → List Int → List (S59) → Option (List Int)
 | 0, _, _, _, _, _ => none
 | k + 1, x2, x7, x8, x280000, x280001 => if x8 < (x7.length : Int) then (impl_Network_reached.l1 k x2 x7 x8 x280001 (x280001.length : Int) 0 x280000 x280001) else ((slices_Sort_int64S.f x7).bind fun t283 => (some t283))
def impl_Network_reached.l1 : Nat → List Int → List Int → Int → List (S59) → Int → Int → List Int → List (S59) → Option (List Int)
 | 0, _, _, _, _, _, _, _, _ => none
 | k + 1, x2, x7, x8, x22, x23, x24, x280000, x280001 => if x24 < x23 then (if 0 ≤ x24 then (if x24 < (x22.length : Int) then (if 0 ≤ x8 then (if x8 < (x7.length : Int) then ((impl_Pipe_other.f ((rd_T59 x22 x24).f0) ((rd_T59 x22 x24).f1) ((rd_T59 x22 x24).f2) ((rd_T59 x22 x24).f3) ((rd_T59 x22 x24).f4) ((rd_T59 x22 x24).f5) (rd x7 x8)).bind fun bt287 => (if bt287.2 = true then ((slices_Contains_int64S.f k x2 x24).bind fun t289 => (if t289 = true then (impl_Network_reached.l1 k x2 x7 x8 x22 x23 (wrap64 (x24 + 1)) x280000 x280001) else ((slices_Contains_int64S.f k x7 bt287.1).bind fun t290 => (if t290 = true then (impl_Network_reached.l1 k x2 x7 x8 x22 x23 (wrap64 (x24 + 1)) x280000 x280001) else (if x7.length < 17592186044416 then (impl_Network_reached.l1 k x2 (x7 ++ [bt287.1]) x8 x22 x23 (wrap64 (x24 + 1)) x280000 x280001) else (none)))))) else (impl_Network_reached.l1 k x2 x7 x8 x22 x23 (wrap64 (x24 + 1)) x280000 x280001))) else (none)) else (none)) else (none)) else (none)) else (impl_Network_reached.l0 k x2 x7 (wrap64 (x8 + 1)) x280000 x280001)
end
def impl_Network_reached.f (k : Nat) (l0_0 : List Int) (l0_1 : List (S59)) (a1 : Int) (l2 : List Int) : Option (List Int) := impl_Network_reached.l0 k l2 (([a1] : List Int)) 0 l0_0 l0_1
def impl_Network_reached.T8 : Bool × List (List Nat × List Nat) := (true, [([], []), ([], []), ([], []), ([1, 2], [1, 2]), ([3], [3]), ([0, 4], [0, 4]), ([5], [5]), ([6], [6]), ([6], [6]), ([7, 5, 0, 1, 2, 3, 4, 5, 6, 7], [7]), ([8, 9, 0, 1, 2, 3, 4, 5, 6, 7, 8, 9], [8])])
def impl_Network_reached.B8 : List Nat := [0, 0, 0, 6, 14, 31, 63, 127, 127, 255, 1023]
theorem impl_Network_reached.tab8 : rtab .any (opsOf Try.f67 8) = impl_Network_reached.T8 := by kernel_rfl
theorem impl_Network_reached.bits8 : waitsOk impl_Network_reached.T8.2 impl_Network_reached.B8 = true := by kernel_rfl
set_option maxHeartbeats 8000000 in
set_option maxRecDepth 100000 in
theorem impl_Network_reached.calls (k : Nat) (A0_0 : Option Addr) (c0_0 : Nat) (l0_0 : List Int) (A0_1 : Option Addr) (c0_1 : Nat) (l0_1 : List (S59)) (a1 : Int) (A2 : Option Addr) (c2 : Nat) (l2 : List Int) (r : List Int) (w : World) (hr0_0 : Kd.C (Kd.int .i64) w A0_0 l0_0.length l0_0) (hc0_0 : l0_0.length ≤ c0_0) (hr0_1 : Kd.C k59 w A0_1 l0_1.length l0_1) (hc0_1 : l0_1.length ≤ c0_1) (hr2 : Kd.C (Kd.int .i64) w A2 l2.length l2) (hc2 : l2.length ≤ c2) (h : impl_Network_reached.f k l0_0 l0_1 a1 l2 = some r) :
  Calls Try.prog 67 #[.agg #[.slice A0_0 l0_0.length c0_0, .slice A0_1 l0_1.length c0_1], .int .i64 a1, .slice A2 l2.length c2] w fun e w' => ∃ v0_ : Value, e = .returned (v0_) ∧ Kd.R (Kd.int .i64) 2 w' w.heap.size (fun _ => True) v0_ r ∧ Below w.heap.size w w' := by
 have hu31 := Try.underlying31
 have hu59 := Try.underlying59
 have HR0_0 := Aside0.mk hr0_0
 have HC0_0 := Aside0.mk hc0_0
 clear hr0_0 hc0_0
 have HR0_1 := Aside0.mk hr0_1
 have HC0_1 := Aside0.mk hc0_1
 clear hr0_1 hc0_1
 have HR2 := Aside0.mk hr2
 have HC2 := Aside0.mk hc2
 clear hr2 hc2
 have HB := Aside0.mk (Below.refl w.heap.size w)
 have H : (impl_Network_reached.l0 k l2 (([a1] : List Int)) 0 l0_0 l0_1) = some r := h
 clear h
 obtain ⟨y280, hy280⟩ : ∃ y_ : List Int, y_ = (([a1] : List Int)) := ⟨_, rfl⟩
 replace H : (impl_Network_reached.l0 k l2 y280 0 l0_0 l0_1) = some r := by first | (rw [hy280]; with_reducible exact H) | (have H2_ := (Option.bind_some _ _).symm.trans H; rw [hy280]; with_reducible exact H2_) | (have H2_ := (Option.bind_some _ _).symm.trans H; with_reducible exact H2_) | with_reducible exact H | (rw [hy280]; exact H) | exact H
 have Ny280 := Aside0.mk hy280
 clear hy280
 have H' := Aside0.mk H
 clear H
 go_enter Try.func67, Try.ntmps67
 go_wp2_with (first | ((with_reducible refine gate_dst (N := 3) rfl ?_); refine boxZ 3 #[.slice A0_0 l0_0.length c0_0, .slice A0_1 l0_1.length c0_1] 31 rfl rfl ?_; intro gb279 hg w4 hbox hb; have n0_ := Aside0.mk (below_step bZ hb); have n1_ := Aside0.mk (hbox); have n2_ := Aside0.mk ((by rw [hg]; exact bsZ : w.heap.size ≤ gb279)); have n3_ := Aside0.mk ((by rw [hg]; exact bsZ : w.heap.size ≤ gb279)); clear HB; have HB := n0_; have BK279 := n1_; have GW279 := n2_; have GE279 := n3_; clear n0_ n1_ n2_ n3_; clear hb hbox hg) | ((with_reducible refine gate_dst (N := 14) rfl ?_); refine Kd.R_lit (Kd.int .i64) _ 2 ?hg (N := 14) ?hd (xs := ([a1] : List Int)) (inner := [.int .i64 a1]) (ok := fun _ => True) (okp := fun _ => True) ?hr ?hp (fun _ hk => hk) trivial (Below.refl _ _) (Nat.le_refl _) (by simp) ?_; (case hd => rfl); (case hg => rfl); (case hr => first | (go_simp; done) | (go_simp; rfl)); (case hp => exact (Reps.one (show Kd.M (Kd.int .i64) _ _ _ a1 [.int .i64 a1] from rfl) (Reps.none _ _))); intro v281 w5 ho6 hb hg_ hnew_; clear hg_ hnew_; (first | rw [← Ny280.out] at ho6 | (simp only [Int.reduceToNat] at ho6; rw [← Ny280.out] at ho6)); have n0_ := Aside0.mk (Kd.R_lower ho6 bsZ); have n1_ := Aside0.mk (blk_below (g := gb279) (o := .cells #[.slice A0_0 l0_0.length c0_0, .slice A0_1 l0_1.length c0_1] 31 (0, 0)) (kZ BK279.out) hb); have n2_ := Aside0.mk (below_step bZ hb); clear BK279; clear HB; have HO282 := n0_; have BK279 := n1_; have HB := n2_; clear n0_ n1_ n2_; clear hb ho6))
 go_loopg [7, 8] k (fun kq v7 v8 w' => ∃ (x7_1 : List Int) (x8_1 : Int), v8 = .int .i64 x8_1 ∧ Aside0 (impl_Network_reached.l0 kq l2 x7_1 x8_1 l0_0 l0_1 = some r) ∧ Aside0 (kq ≤ k) ∧ Aside0 (Kd.R (Kd.int .i64) 2 w' w.heap.size (fun _ => True) v7 x7_1) ∧ Aside0 (w'.heap[gb279]? = some (.cells #[(.slice A0_0 l0_0.length c0_0), (.slice A0_1 l0_1.length c0_1)] 31 (0, 0))) ∧ Aside0 (Below w.heap.size w w'))
 case atStart => exact ⟨(y280), (0), sZ, H', ⟨Nat.le_refl _⟩, ⟨Kd.rZ HO282.out⟩, ⟨kZ BK279.out⟩, ⟨bZ⟩⟩
 case round =>
  clear H'; (try clear c2); (try clear p2); (try clear c6)
  obtain ⟨x7_1, x8_1, rfl, HA, HK1, HO_7, BK279, HB⟩ := hrel
  cases gk with
  | zero => exact absurd HA.out (by simp [impl_Network_reached.l0])
  | succ k1 =>
   have H := HA.out
   clear HA
   simp only [impl_Network_reached.l0] at H
   by_cases c7 : x8_1 < (x7_1.length : Int)
   ·rw [if_pos c7] at H
    have c7b0 : decide (x8_1 < (x7_1.length : Int)) = true := decide_eq_true c7
    clear c7
    have H' := Aside0.mk H
    clear H
    obtain ⟨Ao8, co8, eo8⟩ := Kd.R_slice HO_7.out
    subst eo8
    have hcz9_0 := bc0 BK279.out
    have hcz9_1 := bc1 BK279.out
    have hfz9_0 := blk_frozen BK279.out 0
    have hfz9_1 := blk_frozen BK279.out 1
    go_wp2
    go_loopg [7, 24] k1 (fun kq v7 v24 w' => ∃ (x7_2 : List Int) (x24_2 : Int), v24 = .int .i64 x24_2 ∧ Aside0 (impl_Network_reached.l1 kq l2 x7_2 x8_1 l0_1 (l0_1.length : Int) x24_2 l0_0 l0_1 = some r) ∧ Aside0 (kq ≤ k1) ∧ Aside0 (Kd.R (Kd.int .i64) 2 w' w.heap.size (fun _ => True) v7 x7_2) ∧ Aside0 (w'.heap[gb279]? = some (.cells #[(.slice A0_0 l0_0.length c0_0), (.slice A0_1 l0_1.length c0_1)] 31 (0, 0))) ∧ Aside0 (Below w.heap.size w w'))
    case atStart => exact ⟨(x7_1), (0), sZ, H', ⟨Nat.le_refl _⟩, ⟨Kd.rZ HO_7.out⟩, ⟨kZ BK279.out⟩, ⟨bZ⟩⟩
    case round =>
     clear H'; (try clear c2); (try clear p2); (try clear c6); (try clear c7); (try clear c7b0); (try clear hcz9_0); (try clear hcz9_1); (try clear hfz9_0); (try clear hfz9_1); (try clear p2)
     obtain ⟨x7_2, x24_2, rfl, HA, HK2, HO_7, BK279, HB⟩ := hrel
     cases gk with
     | zero => exact absurd HA.out (by simp [impl_Network_reached.l1])
     | succ k2 =>
      have H := HA.out
      clear HA
      simp only [impl_Network_reached.l1] at H
      by_cases c10 : x24_2 < (l0_1.length : Int)
      ·rw [if_pos c10] at H
       have c10b0 : decide (x24_2 < (l0_1.length : Int)) = true := decide_eq_true c10
       clear c10
       by_cases c11 : 0 ≤ x24_2
       ·rw [if_pos c11] at H
        have c11b0 : decide (0 ≤ x24_2) = true := decide_eq_true c11
        clear c11
        by_cases c12 : x24_2 < (l0_1.length : Int)
        ·rw [if_pos c12] at H
         have c12b0 : decide (x24_2 < (l0_1.length : Int)) = true := decide_eq_true c12
         clear c12
         by_cases c13 : 0 ≤ x8_1
         ·rw [if_pos c13] at H
          have c13b0 : decide (0 ≤ x8_1) = true := decide_eq_true c13
          clear c13
          by_cases c14 : x8_1 < (x7_2.length : Int)
          ·rw [if_pos c14] at H
           have c14b0 : decide (x8_1 < (x7_2.length : Int)) = true := decide_eq_true c14
           clear c14
           replace H := Option.bind_eq_some_iff.mp H
           obtain ⟨⟨t287, t288⟩, A150, H⟩ := H
           replace H : (if t288 = true then ((slices_Contains_int64S.f k2 l2 x24_2).bind fun t289 => (if t289 = true then (impl_Network_reached.l1 k2 l2 x7_2 x8_1 l0_1 (l0_1.length : Int) (wrap64 (x24_2 + 1)) l0_0 l0_1) else ((slices_Contains_int64S.f k2 x7_2 t287).bind fun t290 => (if t290 = true then (impl_Network_reached.l1 k2 l2 x7_2 x8_1 l0_1 (l0_1.length : Int) (wrap64 (x24_2 + 1)) l0_0 l0_1) else (if x7_2.length < 17592186044416 then (impl_Network_reached.l1 k2 l2 (x7_2 ++ [t287]) x8_1 l0_1 (l0_1.length : Int) (wrap64 (x24_2 + 1)) l0_0 l0_1) else (none)))))) else (impl_Network_reached.l1 k2 l2 x7_2 x8_1 l0_1 (l0_1.length : Int) (wrap64 (x24_2 + 1)) l0_0 l0_1)) = some r := H
           have A15 := Aside0.mk A150
           clear A150
           by_cases c16 : t288 = true
           ·subst c16
            have H1 : ((slices_Contains_int64S.f k2 l2 x24_2).bind fun t289 => (if t289 = true then (impl_Network_reached.l1 k2 l2 x7_2 x8_1 l0_1 (l0_1.length : Int) (wrap64 (x24_2 + 1)) l0_0 l0_1) else ((slices_Contains_int64S.f k2 x7_2 t287).bind fun t290 => (if t290 = true then (impl_Network_reached.l1 k2 l2 x7_2 x8_1 l0_1 (l0_1.length : Int) (wrap64 (x24_2 + 1)) l0_0 l0_1) else (if x7_2.length < 17592186044416 then (impl_Network_reached.l1 k2 l2 (x7_2 ++ [t287]) x8_1 l0_1 (l0_1.length : Int) (wrap64 (x24_2 + 1)) l0_0 l0_1) else (none)))))) = some r := by rw [if_pos rfl] at H; exact H
            clear H
            have H := H1
            clear H1
            replace H := Option.bind_eq_some_iff.mp H
            obtain ⟨t289, A170, H⟩ := H
            replace H : (if t289 = true then (impl_Network_reached.l1 k2 l2 x7_2 x8_1 l0_1 (l0_1.length : Int) (wrap64 (x24_2 + 1)) l0_0 l0_1) else ((slices_Contains_int64S.f k2 x7_2 t287).bind fun t290 => (if t290 = true then (impl_Network_reached.l1 k2 l2 x7_2 x8_1 l0_1 (l0_1.length : Int) (wrap64 (x24_2 + 1)) l0_0 l0_1) else (if x7_2.length < 17592186044416 then (impl_Network_reached.l1 k2 l2 (x7_2 ++ [t287]) x8_1 l0_1 (l0_1.length : Int) (wrap64 (x24_2 + 1)) l0_0 l0_1) else (none))))) = some r := H
            have A17 := Aside0.mk A170
            clear A170
            by_cases c18 : t289 = true
            ·subst c18
             have H1 : (impl_Network_reached.l1 k2 l2 x7_2 x8_1 l0_1 (l0_1.length : Int) (wrap64 (x24_2 + 1)) l0_0 l0_1) = some r := by rw [if_pos rfl] at H; exact H
             clear H
             have H := H1
             clear H1
             have H' := Aside0.mk H
             clear H
             have p284 : 0 ≤ (x24_2 : Int) := oZ
             have q284 : x24_2 < (l0_1.length : Int) := oZ
             obtain ⟨ad284, e284, hx284_0, hx284_1, hx284_2, hx284_3, hx284_4, hx284_5⟩ := at_T59 HR0_1.out x24_2 p284 q284
             cases e284
             replace hx284_0 := (HB.out.cell (World.block_lt_of_cell? w _ hx284_0)).trans hx284_0
             replace hx284_1 := (HB.out.cell (World.block_lt_of_cell? w _ hx284_1)).trans hx284_1
             replace hx284_2 := (HB.out.cell (World.block_lt_of_cell? w _ hx284_2)).trans hx284_2
             replace hx284_3 := (HB.out.cell (World.block_lt_of_cell? w _ hx284_3)).trans hx284_3
             replace hx284_4 := (HB.out.cell (World.block_lt_of_cell? w _ hx284_4)).trans hx284_4
             replace hx284_5 := (HB.out.cell (World.block_lt_of_cell? w _ hx284_5)).trans hx284_5
             replace p284 := eq_true p284
             replace q284 := eq_true q284
             try go_wp2_with (first | ((with_reducible refine gate_dst (N := 10) rfl ?_); refine boxZ 10 #[.string (⟨#[]⟩ : ByteArray), .int .i64 0, .int .i64 0, .int .i64 0, .int .i64 0, .int .i64 0] 59 rfl rfl ?_; intro gb285 hg w19 hbox hb; have n0_ := Aside0.mk (Kd.R_below (Kd.rZ HO_7.out) hb); have n1_ := Aside0.mk (blk_below (g := gb279) (o := .cells #[.slice A0_0 l0_0.length c0_0, .slice (some ad284) l0_1.length c0_1] 31 (0, 0)) (kZ BK279.out) hb); have n2_ := Aside0.mk (below_step bZ hb); have n3_ := Aside0.mk (hbox); have n4_ := Aside0.mk ((by rw [hg]; exact bsZ : w.heap.size ≤ gb285)); have n5_ := Aside0.mk ((by rw [hg]; exact bsZ : w.heap.size ≤ gb285)); have n6_ := Aside0.mk ((by rw [hg]; exact Nat.ne_of_lt (blk_lt (g := gb279) (o := .cells #[.slice A0_0 l0_0.length c0_0, .slice (some ad284) l0_1.length c0_1] 31 (0, 0)) (kZ BK279.out)) : gb279 ≠ gb285)); have n7_ := Aside0.mk ((by rw [hg]; exact Nat.ne_of_gt (blk_lt (g := gb279) (o := .cells #[.slice A0_0 l0_0.length c0_0, .slice (some ad284) l0_1.length c0_1] 31 (0, 0)) (kZ BK279.out)) : gb285 ≠ gb279)); clear HO_7; clear BK279; clear HB; have HO_7 := n0_; have BK279 := n1_; have HB := n2_; have BK285 := n3_; have GW285 := n4_; have GE285 := n5_; have NB279_285 := n6_; have NB285_279 := n7_; clear n0_ n1_ n2_ n3_ n4_ n5_ n6_ n7_; clear hb hbox hg; have hnb20 := NB285_279.out; have hnc20 := NB279_285.out; have hcz21_0 := bc0 BK285.out; have hcz21_1 := bc1 BK285.out; have hcz21_2 := bc2 BK285.out; have hcz21_3 := bc3 BK285.out; have hcz21_4 := bc4 BK285.out; have hcz21_5 := bc5 BK285.out; have hfz21_0 := blk_frozen BK285.out 0; have hfz21_1 := blk_frozen BK285.out 1; have hfz21_2 := blk_frozen BK285.out 2; have hfz21_3 := blk_frozen BK285.out 3; have hfz21_4 := blk_frozen BK285.out 4; have hfz21_5 := blk_frozen BK285.out 5))
             have n0_ : Aside0 (Kd.R (Kd.int .i64) 2 ((((((w19.setCell ⟨gb285, 0, none⟩ (.string ((rd_T59 l0_1 x24_2).f0))).setCell ⟨gb285, 1, none⟩ (.int .i64 ((rd_T59 l0_1 x24_2).f1))).setCell ⟨gb285, 2, none⟩ (.int .i64 ((rd_T59 l0_1 x24_2).f2))).setCell ⟨gb285, 3, none⟩ (.int .i64 ((rd_T59 l0_1 x24_2).f3))).setCell ⟨gb285, 4, none⟩ (.int .i64 ((rd_T59 l0_1 x24_2).f4))).setCell ⟨gb285, 5, none⟩ (.int .i64 ((rd_T59 l0_1 x24_2).f5))) w.heap.size (fun _ => True) u7 x7_2) := ⟨Kd.rZ (Kd.R_mono (Kd.R_far (p := ⟨gb285, 5, none⟩) (Kd.R_far (p := ⟨gb285, 4, none⟩) (Kd.R_far (p := ⟨gb285, 3, none⟩) (Kd.R_far (p := ⟨gb285, 2, none⟩) (Kd.R_far (p := ⟨gb285, 1, none⟩) (Kd.R_far (p := ⟨gb285, 0, none⟩) (Kd.R_types HO_7.out BK285.out (by decide)) (fun _ hk => hk.2) (.string ((rd_T59 l0_1 x24_2).f0))) (fun _ hk => hk.2) (.int .i64 ((rd_T59 l0_1 x24_2).f1))) (fun _ hk => hk.2) (.int .i64 ((rd_T59 l0_1 x24_2).f2))) (fun _ hk => hk.2) (.int .i64 ((rd_T59 l0_1 x24_2).f3))) (fun _ hk => hk.2) (.int .i64 ((rd_T59 l0_1 x24_2).f4))) (fun _ hk => hk.2) (.int .i64 ((rd_T59 l0_1 x24_2).f5))) (fun _ hk => trivial))⟩
             have n1_ : Aside0 (((((((w19.setCell ⟨gb285, 0, none⟩ (.string ((rd_T59 l0_1 x24_2).f0))).setCell ⟨gb285, 1, none⟩ (.int .i64 ((rd_T59 l0_1 x24_2).f1))).setCell ⟨gb285, 2, none⟩ (.int .i64 ((rd_T59 l0_1 x24_2).f2))).setCell ⟨gb285, 3, none⟩ (.int .i64 ((rd_T59 l0_1 x24_2).f3))).setCell ⟨gb285, 4, none⟩ (.int .i64 ((rd_T59 l0_1 x24_2).f4))).setCell ⟨gb285, 5, none⟩ (.int .i64 ((rd_T59 l0_1 x24_2).f5))).heap[gb279]? = some (.cells #[.slice A0_0 l0_0.length c0_0, .slice (some ad284) l0_1.length c0_1] 31 (0, 0))) := ⟨by (with_reducible repeat (first | refine blk_drewN ?_ _ | refine blk_drew ?_ | refine blk_alloc ?_ _)); refine blk_far ?_ NB279_285.out _; (with_reducible repeat (first | refine blk_drewN ?_ _ | refine blk_drew ?_ | refine blk_alloc ?_ _)); refine blk_far ?_ NB279_285.out _; (with_reducible repeat (first | refine blk_drewN ?_ _ | refine blk_drew ?_ | refine blk_alloc ?_ _)); refine blk_far ?_ NB279_285.out _; (with_reducible repeat (first | refine blk_drewN ?_ _ | refine blk_drew ?_ | refine blk_alloc ?_ _)); refine blk_far ?_ NB279_285.out _; (with_reducible repeat (first | refine blk_drewN ?_ _ | refine blk_drew ?_ | refine blk_alloc ?_ _)); refine blk_far ?_ NB279_285.out _; (with_reducible repeat (first | refine blk_drewN ?_ _ | refine blk_drew ?_ | refine blk_alloc ?_ _)); refine blk_far ?_ NB279_285.out _; (with_reducible repeat (first | refine blk_drewN ?_ _ | refine blk_drew ?_ | refine blk_alloc ?_ _)); exact BK279.out⟩
             have n2_ : Aside0 (((((((w19.setCell ⟨gb285, 0, none⟩ (.string ((rd_T59 l0_1 x24_2).f0))).setCell ⟨gb285, 1, none⟩ (.int .i64 ((rd_T59 l0_1 x24_2).f1))).setCell ⟨gb285, 2, none⟩ (.int .i64 ((rd_T59 l0_1 x24_2).f2))).setCell ⟨gb285, 3, none⟩ (.int .i64 ((rd_T59 l0_1 x24_2).f3))).setCell ⟨gb285, 4, none⟩ (.int .i64 ((rd_T59 l0_1 x24_2).f4))).setCell ⟨gb285, 5, none⟩ (.int .i64 ((rd_T59 l0_1 x24_2).f5))).heap[gb285]? = some (.cells #[.string ((rd_T59 l0_1 x24_2).f0), .int .i64 ((rd_T59 l0_1 x24_2).f1), .int .i64 ((rd_T59 l0_1 x24_2).f2), .int .i64 ((rd_T59 l0_1 x24_2).f3), .int .i64 ((rd_T59 l0_1 x24_2).f4), .int .i64 ((rd_T59 l0_1 x24_2).f5)] 59 (0, 0))) := ⟨by (with_reducible repeat (first | refine blk_drewN ?_ _ | refine blk_drew ?_ | refine blk_alloc ?_ _)); refine blk_put (cs := #[.string ((rd_T59 l0_1 x24_2).f0), .int .i64 ((rd_T59 l0_1 x24_2).f1), .int .i64 ((rd_T59 l0_1 x24_2).f2), .int .i64 ((rd_T59 l0_1 x24_2).f3), .int .i64 ((rd_T59 l0_1 x24_2).f4), .int .i64 0]) ?_ 5 _ rfl; (with_reducible repeat (first | refine blk_drewN ?_ _ | refine blk_drew ?_ | refine blk_alloc ?_ _)); refine blk_put (cs := #[.string ((rd_T59 l0_1 x24_2).f0), .int .i64 ((rd_T59 l0_1 x24_2).f1), .int .i64 ((rd_T59 l0_1 x24_2).f2), .int .i64 ((rd_T59 l0_1 x24_2).f3), .int .i64 0, .int .i64 0]) ?_ 4 _ rfl; (with_reducible repeat (first | refine blk_drewN ?_ _ | refine blk_drew ?_ | refine blk_alloc ?_ _)); refine blk_put (cs := #[.string ((rd_T59 l0_1 x24_2).f0), .int .i64 ((rd_T59 l0_1 x24_2).f1), .int .i64 ((rd_T59 l0_1 x24_2).f2), .int .i64 0, .int .i64 0, .int .i64 0]) ?_ 3 _ rfl; (with_reducible repeat (first | refine blk_drewN ?_ _ | refine blk_drew ?_ | refine blk_alloc ?_ _)); refine blk_put (cs := #[.string ((rd_T59 l0_1 x24_2).f0), .int .i64 ((rd_T59 l0_1 x24_2).f1), .int .i64 0, .int .i64 0, .int .i64 0, .int .i64 0]) ?_ 2 _ rfl; (with_reducible repeat (first | refine blk_drewN ?_ _ | refine blk_drew ?_ | refine blk_alloc ?_ _)); refine blk_put (cs := #[.string ((rd_T59 l0_1 x24_2).f0), .int .i64 0, .int .i64 0, .int .i64 0, .int .i64 0, .int .i64 0]) ?_ 1 _ rfl; (with_reducible repeat (first | refine blk_drewN ?_ _ | refine blk_drew ?_ | refine blk_alloc ?_ _)); refine blk_put (cs := #[.string (⟨#[]⟩ : ByteArray), .int .i64 0, .int .i64 0, .int .i64 0, .int .i64 0, .int .i64 0]) ?_ 0 _ rfl; (with_reducible repeat (first | refine blk_drewN ?_ _ | refine blk_drew ?_ | refine blk_alloc ?_ _)); exact BK285.out⟩
             have n3_ : Aside0 (Below w.heap.size w ((((((w19.setCell ⟨gb285, 0, none⟩ (.string ((rd_T59 l0_1 x24_2).f0))).setCell ⟨gb285, 1, none⟩ (.int .i64 ((rd_T59 l0_1 x24_2).f1))).setCell ⟨gb285, 2, none⟩ (.int .i64 ((rd_T59 l0_1 x24_2).f2))).setCell ⟨gb285, 3, none⟩ (.int .i64 ((rd_T59 l0_1 x24_2).f3))).setCell ⟨gb285, 4, none⟩ (.int .i64 ((rd_T59 l0_1 x24_2).f4))).setCell ⟨gb285, 5, none⟩ (.int .i64 ((rd_T59 l0_1 x24_2).f5)))) := ⟨bZ⟩
             (try clear HO_7)
             (try clear BK279)
             (try clear BK285)
             (try clear HB)
             generalize ((((((w19.setCell ⟨gb285, 0, none⟩ (.string ((rd_T59 l0_1 x24_2).f0))).setCell ⟨gb285, 1, none⟩ (.int .i64 ((rd_T59 l0_1 x24_2).f1))).setCell ⟨gb285, 2, none⟩ (.int .i64 ((rd_T59 l0_1 x24_2).f2))).setCell ⟨gb285, 3, none⟩ (.int .i64 ((rd_T59 l0_1 x24_2).f3))).setCell ⟨gb285, 4, none⟩ (.int .i64 ((rd_T59 l0_1 x24_2).f4))).setCell ⟨gb285, 5, none⟩ (.int .i64 ((rd_T59 l0_1 x24_2).f5))) = w22 at n0_ n1_ n2_ n3_ ⊢
             have HO_7 := n0_
             have BK279 := n1_
             have BK285 := n2_
             have HB := n3_
             clear n0_ n1_ n2_ n3_
             have n0_ := Aside0.mk (Kd.R_drew HO_7.out)
             have n1_ := Aside0.mk (blk_drew BK279.out)
             have n2_ := Aside0.mk (blk_drew BK285.out)
             have n3_ := Aside0.mk (below_drew1 HB.out)
             clear HO_7; clear BK279; clear BK285; clear HB
             have HO_7 := n0_
             have BK279 := n1_
             have BK285 := n2_
             have HB := n3_
             clear n0_ n1_ n2_ n3_
             obtain ⟨Ao24, co24, eo24⟩ := Kd.R_slice HO_7.out
             (first | subst eo24 | (injection eo24 with f1_ f2_ f3_; have f4_ := f1_.symm; have f5_ := f3_.symm; clear f1_ f2_ f3_; subst f4_; subst f5_))
             have p286 : 0 ≤ (x8_1 : Int) := oZ
             have q286 : x8_1 < (x7_2.length : Int) := oZ
             obtain ⟨ad286, e286, hx286_0⟩ := Kd.at_int (Kd.R_reads' HO_7.out).2.2 x8_1 p286 q286
             cases e286
             replace p286 := eq_true p286
             replace q286 := eq_true q286
             refine start_ (n := 11) (S := fun w' => w'.cell? ⟨gb285, 0, none⟩ = some (.string ((rd_T59 l0_1 x24_2).f0)) ∧ w'.cell? ⟨gb285, 1, none⟩ = some (.int .i64 ((rd_T59 l0_1 x24_2).f1)) ∧ w'.cell? ⟨gb285, 2, none⟩ = some (.int .i64 ((rd_T59 l0_1 x24_2).f2)) ∧ w'.cell? ⟨gb285, 3, none⟩ = some (.int .i64 ((rd_T59 l0_1 x24_2).f3)) ∧ w'.cell? ⟨gb285, 4, none⟩ = some (.int .i64 ((rd_T59 l0_1 x24_2).f4)) ∧ w'.cell? ⟨gb285, 5, none⟩ = some (.int .i64 ((rd_T59 l0_1 x24_2).f5)) ∧ w'.cell? (ad286.add (x8_1).toNat) = some (.int .i64 (rd x7_2 x8_1))) (ds := []) #[false, false, false, false, false, false, false, false, false, false, false] (by kernel_rfl) rfl rfl ⟨(blk_cell BK285.out 0).trans rfl, (blk_cell BK285.out 1).trans rfl, (blk_cell BK285.out 2).trans rfl, (blk_cell BK285.out 3).trans rfl, (blk_cell BK285.out 4).trans rfl, (blk_cell BK285.out 5).trans rfl, hx286_0⟩ (fun hHeld => ?_); refine with_tabW impl_Network_reached.tab8 impl_Network_reached.bits8 (fun HT_ HW_ => ?_)
             generalize w22.drew = w23 at HO_7 BK279 BK285 HB hx286_0 hHeld ⊢
             refine puZ 1 (some 31) #[false, true, false, false, false, false, false, false, false, false, false] rfl rfl HT_.out ?_
             refine puZ 2 (some 32) #[false, true, true, false, false, false, false, false, false, false, false] rfl rfl HT_.out ?_
             refine puZ 3 (some 33) #[false, true, true, true, false, false, false, false, false, false, false] rfl rfl HT_.out ?_
             refine take_ (i := 0) (N := some 30) (v := ?_) (a' := ?_) #[true, true, true, true, false, false, false, false, false, false, false] rfl rfl (take_ofW HT_.out HW_.out (by kernel_rfl)) (fun _ _ _ h => h) (Or.inl ⟨by rfl, ?_⟩) hHeld ?_ ?_
             rotate_left
             ·rintro w' ⟨s0, s1, s2, s3, s4, s5, s6⟩
              go_simp
              with_reducible rfl
             rotate_left
             ·simp only [Act.put, List.setIfInBounds_toArray, List.set_cons_zero, List.set_cons_succ, i64_w, i32_w]
              rfl
             refine take_ (i := 4) (N := some 34) (v := ?_) (a' := ?_) #[true, true, true, true, true, false, false, false, false, false, false] rfl rfl (take_ofW HT_.out HW_.out (by kernel_rfl)) (fun _ _ _ h => h) (Or.inl ⟨by rfl, ?_⟩) hHeld ?_ ?_
             rotate_left
             ·rintro w' ⟨s0, s1, s2, s3, s4, s5, s6⟩
              go_simp
              with_reducible rfl
             rotate_left
             ·simp only [Act.put, List.setIfInBounds_toArray, List.set_cons_zero, List.set_cons_succ, i64_w, i32_w]
              rfl
             refine one_ (i := 5) (N := some 35) #[true, true, true, true, true, true, false, false, false, false, false] rfl rfl (one_of HT_.out (by kernel_rfl)) (by decide) (fun K hK => ?_)
             refine goes_ Try.func44 (by kernel_rfl) rfl #[.agg #[.string ((rd_T59 l0_1 x24_2).f0), .int .i64 ((rd_T59 l0_1 x24_2).f1), .int .i64 ((rd_T59 l0_1 x24_2).f2), .int .i64 ((rd_T59 l0_1 x24_2).f3), .int .i64 ((rd_T59 l0_1 x24_2).f4), .int .i64 ((rd_T59 l0_1 x24_2).f5)], .int .i64 (rd x7_2 x8_1)] (by rfl) rfl rfl gZ ?_
             with_reducible refine (impl_Pipe_other.calls ((rd_T59 l0_1 x24_2).f0) ((rd_T59 l0_1 x24_2).f1) ((rd_T59 l0_1 x24_2).f2) ((rd_T59 l0_1 x24_2).f3) ((rd_T59 l0_1 x24_2).f4) ((rd_T59 l0_1 x24_2).f5) (rd x7_2 x8_1) t287 true _ A15.out).mono ?_
             rintro e w25 ⟨rfl, hb⟩
             have HS6_ := (hb.cell (World.block_lt_of_cell? _ _ (hHeld.2.2.2.2.2.2))).trans (hHeld.2.2.2.2.2.2)
             refine ⟨_, rfl, ?_⟩
             have n0_ := Aside0.mk (Kd.R_below (Kd.rZ HO_7.out) hb)
             have n1_ := Aside0.mk (blk_below (g := gb279) (o := .cells #[.slice A0_0 l0_0.length c0_0, .slice (some ad284) l0_1.length c0_1] 31 (0, 0)) (kZ BK279.out) hb)
             have n2_ := Aside0.mk (blk_below (g := gb285) (o := .cells #[.string ((rd_T59 l0_1 x24_2).f0), .int .i64 ((rd_T59 l0_1 x24_2).f1), .int .i64 ((rd_T59 l0_1 x24_2).f2), .int .i64 ((rd_T59 l0_1 x24_2).f3), .int .i64 ((rd_T59 l0_1 x24_2).f4), .int .i64 ((rd_T59 l0_1 x24_2).f5)] 59 (0, 0)) (kZ BK285.out) hb)
             have n3_ := Aside0.mk (below_step bZ hb)
             clear HO_7; clear BK279; clear BK285; clear HB
             have HO_7 := n0_
             have BK279 := n1_
             have BK285 := n2_
             have HB := n3_
             clear n0_ n1_ n2_ n3_
             (try clear hb)
             (try clear hb2)
             (try clear hk)
             (try clear hi)
             refine hK.out _ _ ⟨(blk_cell BK285.out 0).trans rfl, (blk_cell BK285.out 1).trans rfl, (blk_cell BK285.out 2).trans rfl, (blk_cell BK285.out 3).trans rfl, (blk_cell BK285.out 4).trans rfl, (blk_cell BK285.out 5).trans rfl, HS6_⟩ (fun hHeld => ?_)
             clear hK K
             refine norm_ (a' := ?_) ?_ ?_
             rotate_left
             ·show Act.put _ (some 35) _ = _
              simp only [Act.put, List.setIfInBounds_toArray, List.set_cons_zero, List.set_cons_succ, i64_w, i32_w]
              rfl
             refine puZ 6 (some 29) #[true, true, true, true, true, true, true, false, false, false, false] rfl rfl HT_.out ?_
             refine puZ 7 (some 36) #[true, true, true, true, true, true, true, true, false, false, false] rfl rfl HT_.out ?_
             refine puZ 8 (some 37) #[true, true, true, true, true, true, true, true, true, false, false] rfl rfl HT_.out ?_
             refine puZ 9 (some 11) #[true, true, true, true, true, true, true, true, true, true, false] rfl rfl HT_.out ?_
             refine puZ 10 (some 12) #[true, true, true, true, true, true, true, true, true, true, true] rfl rfl HT_.out ?_
             refine done_ (done_of HT_.out (by kernel_rfl)) ?_
             try go_wp2_with (first | (go_at_call 45; (with_reducible refine (slices_Contains_int64S.calls k2 _ _ l2 x24_2 true _ ?side1 ?side2 A17.out).mono ?_); (case side1 => repeat (first | exact (Kd.C_below HR2.out HB.out) | (with_reducible refine Kd.C_alloc ?_ _) | (with_reducible refine Kd.C_drewN ?_ _) | (with_reducible refine Kd.C_drew ?_))); (case side2 => exact HC2.out); rintro e w' ⟨rfl, ⟨nd, rfl⟩⟩))
             go_roundg k2
             case measure => have := HK1.out; have := HK2.out; omega
             case rel => exact ⟨(x7_2), (wrap64 (x24_2 + 1)), sZ, H', ⟨by have := HK1.out; have := HK2.out; omega⟩, ⟨Kd.rZ HO_7.out⟩, ⟨kZ BK279.out⟩, ⟨bZ⟩⟩
            ·replace c18 := Bool.eq_false_iff.mpr c18
             subst c18
             have H1 : ((slices_Contains_int64S.f k2 x7_2 t287).bind fun t290 => (if t290 = true then (impl_Network_reached.l1 k2 l2 x7_2 x8_1 l0_1 (l0_1.length : Int) (wrap64 (x24_2 + 1)) l0_0 l0_1) else (if x7_2.length < 17592186044416 then (impl_Network_reached.l1 k2 l2 (x7_2 ++ [t287]) x8_1 l0_1 (l0_1.length : Int) (wrap64 (x24_2 + 1)) l0_0 l0_1) else (none)))) = some r := by rw [if_neg (show ¬ (false = true) by decide)] at H; exact H
             clear H
             have H := H1
             clear H1
             replace H := Option.bind_eq_some_iff.mp H
             obtain ⟨t290, A260, H⟩ := H
             replace H : (if t290 = true then (impl_Network_reached.l1 k2 l2 x7_2 x8_1 l0_1 (l0_1.length : Int) (wrap64 (x24_2 + 1)) l0_0 l0_1) else (if x7_2.length < 17592186044416 then (impl_Network_reached.l1 k2 l2 (x7_2 ++ [t287]) x8_1 l0_1 (l0_1.length : Int) (wrap64 (x24_2 + 1)) l0_0 l0_1) else (none))) = some r := H
             have A26 := Aside0.mk A260
             clear A260
             by_cases c27 : t290 = true
             ·subst c27
              have H1 : (impl_Network_reached.l1 k2 l2 x7_2 x8_1 l0_1 (l0_1.length : Int) (wrap64 (x24_2 + 1)) l0_0 l0_1) = some r := by rw [if_pos rfl] at H; exact H
              clear H
              have H := H1
              clear H1
              have H' := Aside0.mk H
              clear H
              have p284 : 0 ≤ (x24_2 : Int) := oZ
              have q284 : x24_2 < (l0_1.length : Int) := oZ
              obtain ⟨ad284, e284, hx284_0, hx284_1, hx284_2, hx284_3, hx284_4, hx284_5⟩ := at_T59 HR0_1.out x24_2 p284 q284
              cases e284
              replace hx284_0 := (HB.out.cell (World.block_lt_of_cell? w _ hx284_0)).trans hx284_0
              replace hx284_1 := (HB.out.cell (World.block_lt_of_cell? w _ hx284_1)).trans hx284_1
              replace hx284_2 := (HB.out.cell (World.block_lt_of_cell? w _ hx284_2)).trans hx284_2
              replace hx284_3 := (HB.out.cell (World.block_lt_of_cell? w _ hx284_3)).trans hx284_3
              replace hx284_4 := (HB.out.cell (World.block_lt_of_cell? w _ hx284_4)).trans hx284_4
              replace hx284_5 := (HB.out.cell (World.block_lt_of_cell? w _ hx284_5)).trans hx284_5
              replace p284 := eq_true p284
              replace q284 := eq_true q284
              try go_wp2_with (first | ((with_reducible refine gate_dst (N := 10) rfl ?_); refine boxZ 10 #[.string (⟨#[]⟩ : ByteArray), .int .i64 0, .int .i64 0, .int .i64 0, .int .i64 0, .int .i64 0] 59 rfl rfl ?_; intro gb285 hg w28 hbox hb; have n0_ := Aside0.mk (Kd.R_below (Kd.rZ HO_7.out) hb); have n1_ := Aside0.mk (blk_below (g := gb279) (o := .cells #[.slice A0_0 l0_0.length c0_0, .slice (some ad284) l0_1.length c0_1] 31 (0, 0)) (kZ BK279.out) hb); have n2_ := Aside0.mk (below_step bZ hb); have n3_ := Aside0.mk (hbox); have n4_ := Aside0.mk ((by rw [hg]; exact bsZ : w.heap.size ≤ gb285)); have n5_ := Aside0.mk ((by rw [hg]; exact bsZ : w.heap.size ≤ gb285)); have n6_ := Aside0.mk ((by rw [hg]; exact Nat.ne_of_lt (blk_lt (g := gb279) (o := .cells #[.slice A0_0 l0_0.length c0_0, .slice (some ad284) l0_1.length c0_1] 31 (0, 0)) (kZ BK279.out)) : gb279 ≠ gb285)); have n7_ := Aside0.mk ((by rw [hg]; exact Nat.ne_of_gt (blk_lt (g := gb279) (o := .cells #[.slice A0_0 l0_0.length c0_0, .slice (some ad284) l0_1.length c0_1] 31 (0, 0)) (kZ BK279.out)) : gb285 ≠ gb279)); clear HO_7; clear BK279; clear HB; have HO_7 := n0_; have BK279 := n1_; have HB := n2_; have BK285 := n3_; have GW285 := n4_; have GE285 := n5_; have NB279_285 := n6_; have NB285_279 := n7_; clear n0_ n1_ n2_ n3_ n4_ n5_ n6_ n7_; clear hb hbox hg; have hnb29 := NB285_279.out; have hnc29 := NB279_285.out; have hcz30_0 := bc0 BK285.out; have hcz30_1 := bc1 BK285.out; have hcz30_2 := bc2 BK285.out; have hcz30_3 := bc3 BK285.out; have hcz30_4 := bc4 BK285.out; have hcz30_5 := bc5 BK285.out; have hfz30_0 := blk_frozen BK285.out 0; have hfz30_1 := blk_frozen BK285.out 1; have hfz30_2 := blk_frozen BK285.out 2; have hfz30_3 := blk_frozen BK285.out 3; have hfz30_4 := blk_frozen BK285.out 4; have hfz30_5 := blk_frozen BK285.out 5))
              have n0_ : Aside0 (Kd.R (Kd.int .i64) 2 ((((((w28.setCell ⟨gb285, 0, none⟩ (.string ((rd_T59 l0_1 x24_2).f0))).setCell ⟨gb285, 1, none⟩ (.int .i64 ((rd_T59 l0_1 x24_2).f1))).setCell ⟨gb285, 2, none⟩ (.int .i64 ((rd_T59 l0_1 x24_2).f2))).setCell ⟨gb285, 3, none⟩ (.int .i64 ((rd_T59 l0_1 x24_2).f3))).setCell ⟨gb285, 4, none⟩ (.int .i64 ((rd_T59 l0_1 x24_2).f4))).setCell ⟨gb285, 5, none⟩ (.int .i64 ((rd_T59 l0_1 x24_2).f5))) w.heap.size (fun _ => True) u7 x7_2) := ⟨Kd.rZ (Kd.R_mono (Kd.R_far (p := ⟨gb285, 5, none⟩) (Kd.R_far (p := ⟨gb285, 4, none⟩) (Kd.R_far (p := ⟨gb285, 3, none⟩) (Kd.R_far (p := ⟨gb285, 2, none⟩) (Kd.R_far (p := ⟨gb285, 1, none⟩) (Kd.R_far (p := ⟨gb285, 0, none⟩) (Kd.R_types HO_7.out BK285.out (by decide)) (fun _ hk => hk.2) (.string ((rd_T59 l0_1 x24_2).f0))) (fun _ hk => hk.2) (.int .i64 ((rd_T59 l0_1 x24_2).f1))) (fun _ hk => hk.2) (.int .i64 ((rd_T59 l0_1 x24_2).f2))) (fun _ hk => hk.2) (.int .i64 ((rd_T59 l0_1 x24_2).f3))) (fun _ hk => hk.2) (.int .i64 ((rd_T59 l0_1 x24_2).f4))) (fun _ hk => hk.2) (.int .i64 ((rd_T59 l0_1 x24_2).f5))) (fun _ hk => trivial))⟩
              have n1_ : Aside0 (((((((w28.setCell ⟨gb285, 0, none⟩ (.string ((rd_T59 l0_1 x24_2).f0))).setCell ⟨gb285, 1, none⟩ (.int .i64 ((rd_T59 l0_1 x24_2).f1))).setCell ⟨gb285, 2, none⟩ (.int .i64 ((rd_T59 l0_1 x24_2).f2))).setCell ⟨gb285, 3, none⟩ (.int .i64 ((rd_T59 l0_1 x24_2).f3))).setCell ⟨gb285, 4, none⟩ (.int .i64 ((rd_T59 l0_1 x24_2).f4))).setCell ⟨gb285, 5, none⟩ (.int .i64 ((rd_T59 l0_1 x24_2).f5))).heap[gb279]? = some (.cells #[.slice A0_0 l0_0.length c0_0, .slice (some ad284) l0_1.length c0_1] 31 (0, 0))) := ⟨by (with_reducible repeat (first | refine blk_drewN ?_ _ | refine blk_drew ?_ | refine blk_alloc ?_ _)); refine blk_far ?_ NB279_285.out _; (with_reducible repeat (first | refine blk_drewN ?_ _ | refine blk_drew ?_ | refine blk_alloc ?_ _)); refine blk_far ?_ NB279_285.out _; (with_reducible repeat (first | refine blk_drewN ?_ _ | refine blk_drew ?_ | refine blk_alloc ?_ _)); refine blk_far ?_ NB279_285.out _; (with_reducible repeat (first | refine blk_drewN ?_ _ | refine blk_drew ?_ | refine blk_alloc ?_ _)); refine blk_far ?_ NB279_285.out _; (with_reducible repeat (first | refine blk_drewN ?_ _ | refine blk_drew ?_ | refine blk_alloc ?_ _)); refine blk_far ?_ NB279_285.out _; (with_reducible repeat (first | refine blk_drewN ?_ _ | refine blk_drew ?_ | refine blk_alloc ?_ _)); refine blk_far ?_ NB279_285.out _; (with_reducible repeat (first | refine blk_drewN ?_ _ | refine blk_drew ?_ | refine blk_alloc ?_ _)); exact BK279.out⟩
              have n2_ : Aside0 (((((((w28.setCell ⟨gb285, 0, none⟩ (.string ((rd_T59 l0_1 x24_2).f0))).setCell ⟨gb285, 1, none⟩ (.int .i64 ((rd_T59 l0_1 x24_2).f1))).setCell ⟨gb285, 2, none⟩ (.int .i64 ((rd_T59 l0_1 x24_2).f2))).setCell ⟨gb285, 3, none⟩ (.int .i64 ((rd_T59 l0_1 x24_2).f3))).setCell ⟨gb285, 4, none⟩ (.int .i64 ((rd_T59 l0_1 x24_2).f4))).setCell ⟨gb285, 5, none⟩ (.int .i64 ((rd_T59 l0_1 x24_2).f5))).heap[gb285]? = some (.cells #[.string ((rd_T59 l0_1 x24_2).f0), .int .i64 ((rd_T59 l0_1 x24_2).f1), .int .i64 ((rd_T59 l0_1 x24_2).f2), .int .i64 ((rd_T59 l0_1 x24_2).f3), .int .i64 ((rd_T59 l0_1 x24_2).f4), .int .i64 ((rd_T59 l0_1 x24_2).f5)] 59 (0, 0))) := ⟨by (with_reducible repeat (first | refine blk_drewN ?_ _ | refine blk_drew ?_ | refine blk_alloc ?_ _)); refine blk_put (cs := #[.string ((rd_T59 l0_1 x24_2).f0), .int .i64 ((rd_T59 l0_1 x24_2).f1), .int .i64 ((rd_T59 l0_1 x24_2).f2), .int .i64 ((rd_T59 l0_1 x24_2).f3), .int .i64 ((rd_T59 l0_1 x24_2).f4), .int .i64 0]) ?_ 5 _ rfl; (with_reducible repeat (first | refine blk_drewN ?_ _ | refine blk_drew ?_ | refine blk_alloc ?_ _)); refine blk_put (cs := #[.string ((rd_T59 l0_1 x24_2).f0), .int .i64 ((rd_T59 l0_1 x24_2).f1), .int .i64 ((rd_T59 l0_1 x24_2).f2), .int .i64 ((rd_T59 l0_1 x24_2).f3), .int .i64 0, .int .i64 0]) ?_ 4 _ rfl; (with_reducible repeat (first | refine blk_drewN ?_ _ | refine blk_drew ?_ | refine blk_alloc ?_ _)); refine blk_put (cs := #[.string ((rd_T59 l0_1 x24_2).f0), .int .i64 ((rd_T59 l0_1 x24_2).f1), .int .i64 ((rd_T59 l0_1 x24_2).f2), .int .i64 0, .int .i64 0, .int .i64 0]) ?_ 3 _ rfl; (with_reducible repeat (first | refine blk_drewN ?_ _ | refine blk_drew ?_ | refine blk_alloc ?_ _)); refine blk_put (cs := #[.string ((rd_T59 l0_1 x24_2).f0), .int .i64 ((rd_T59 l0_1 x24_2).f1), .int .i64 0, .int .i64 0, .int .i64 0, .int .i64 0]) ?_ 2 _ rfl; (with_reducible repeat (first | refine blk_drewN ?_ _ | refine blk_drew ?_ | refine blk_alloc ?_ _)); refine blk_put (cs := #[.string ((rd_T59 l0_1 x24_2).f0), .int .i64 0, .int .i64 0, .int .i64 0, .int .i64 0, .int .i64 0]) ?_ 1 _ rfl; (with_reducible repeat (first | refine blk_drewN ?_ _ | refine blk_drew ?_ | refine blk_alloc ?_ _)); refine blk_put (cs := #[.string (⟨#[]⟩ : ByteArray), .int .i64 0, .int .i64 0, .int .i64 0, .int .i64 0, .int .i64 0]) ?_ 0 _ rfl; (with_reducible repeat (first | refine blk_drewN ?_ _ | refine blk_drew ?_ | refine blk_alloc ?_ _)); exact BK285.out⟩
              have n3_ : Aside0 (Below w.heap.size w ((((((w28.setCell ⟨gb285, 0, none⟩ (.string ((rd_T59 l0_1 x24_2).f0))).setCell ⟨gb285, 1, none⟩ (.int .i64 ((rd_T59 l0_1 x24_2).f1))).setCell ⟨gb285, 2, none⟩ (.int .i64 ((rd_T59 l0_1 x24_2).f2))).setCell ⟨gb285, 3, none⟩ (.int .i64 ((rd_T59 l0_1 x24_2).f3))).setCell ⟨gb285, 4, none⟩ (.int .i64 ((rd_T59 l0_1 x24_2).f4))).setCell ⟨gb285, 5, none⟩ (.int .i64 ((rd_T59 l0_1 x24_2).f5)))) := ⟨bZ⟩
              (try clear HO_7)
              (try clear BK279)
              (try clear BK285)
              (try clear HB)
              generalize ((((((w28.setCell ⟨gb285, 0, none⟩ (.string ((rd_T59 l0_1 x24_2).f0))).setCell ⟨gb285, 1, none⟩ (.int .i64 ((rd_T59 l0_1 x24_2).f1))).setCell ⟨gb285, 2, none⟩ (.int .i64 ((rd_T59 l0_1 x24_2).f2))).setCell ⟨gb285, 3, none⟩ (.int .i64 ((rd_T59 l0_1 x24_2).f3))).setCell ⟨gb285, 4, none⟩ (.int .i64 ((rd_T59 l0_1 x24_2).f4))).setCell ⟨gb285, 5, none⟩ (.int .i64 ((rd_T59 l0_1 x24_2).f5))) = w31 at n0_ n1_ n2_ n3_ ⊢
              have HO_7 := n0_
              have BK279 := n1_
              have BK285 := n2_
              have HB := n3_
              clear n0_ n1_ n2_ n3_
              have n0_ := Aside0.mk (Kd.R_drew HO_7.out)
              have n1_ := Aside0.mk (blk_drew BK279.out)
              have n2_ := Aside0.mk (blk_drew BK285.out)
              have n3_ := Aside0.mk (below_drew1 HB.out)
              clear HO_7; clear BK279; clear BK285; clear HB
              have HO_7 := n0_
              have BK279 := n1_
              have BK285 := n2_
              have HB := n3_
              clear n0_ n1_ n2_ n3_
              obtain ⟨Ao33, co33, eo33⟩ := Kd.R_slice HO_7.out
              (first | subst eo33 | (injection eo33 with f1_ f2_ f3_; have f4_ := f1_.symm; have f5_ := f3_.symm; clear f1_ f2_ f3_; subst f4_; subst f5_))
              have p286 : 0 ≤ (x8_1 : Int) := oZ
              have q286 : x8_1 < (x7_2.length : Int) := oZ
              obtain ⟨ad286, e286, hx286_0⟩ := Kd.at_int (Kd.R_reads' HO_7.out).2.2 x8_1 p286 q286
              cases e286
              replace p286 := eq_true p286
              replace q286 := eq_true q286
              refine start_ (n := 11) (S := fun w' => w'.cell? ⟨gb285, 0, none⟩ = some (.string ((rd_T59 l0_1 x24_2).f0)) ∧ w'.cell? ⟨gb285, 1, none⟩ = some (.int .i64 ((rd_T59 l0_1 x24_2).f1)) ∧ w'.cell? ⟨gb285, 2, none⟩ = some (.int .i64 ((rd_T59 l0_1 x24_2).f2)) ∧ w'.cell? ⟨gb285, 3, none⟩ = some (.int .i64 ((rd_T59 l0_1 x24_2).f3)) ∧ w'.cell? ⟨gb285, 4, none⟩ = some (.int .i64 ((rd_T59 l0_1 x24_2).f4)) ∧ w'.cell? ⟨gb285, 5, none⟩ = some (.int .i64 ((rd_T59 l0_1 x24_2).f5)) ∧ w'.cell? (ad286.add (x8_1).toNat) = some (.int .i64 (rd x7_2 x8_1))) (ds := []) #[false, false, false, false, false, false, false, false, false, false, false] (by kernel_rfl) rfl rfl ⟨(blk_cell BK285.out 0).trans rfl, (blk_cell BK285.out 1).trans rfl, (blk_cell BK285.out 2).trans rfl, (blk_cell BK285.out 3).trans rfl, (blk_cell BK285.out 4).trans rfl, (blk_cell BK285.out 5).trans rfl, hx286_0⟩ (fun hHeld => ?_); refine with_tabW impl_Network_reached.tab8 impl_Network_reached.bits8 (fun HT_ HW_ => ?_)
              generalize w31.drew = w32 at HO_7 BK279 BK285 HB hx286_0 hHeld ⊢
              refine puZ 1 (some 31) #[false, true, false, false, false, false, false, false, false, false, false] rfl rfl HT_.out ?_
              refine puZ 2 (some 32) #[false, true, true, false, false, false, false, false, false, false, false] rfl rfl HT_.out ?_
              refine puZ 3 (some 33) #[false, true, true, true, false, false, false, false, false, false, false] rfl rfl HT_.out ?_
              refine take_ (i := 0) (N := some 30) (v := ?_) (a' := ?_) #[true, true, true, true, false, false, false, false, false, false, false] rfl rfl (take_ofW HT_.out HW_.out (by kernel_rfl)) (fun _ _ _ h => h) (Or.inl ⟨by rfl, ?_⟩) hHeld ?_ ?_
              rotate_left
              ·rintro w' ⟨s0, s1, s2, s3, s4, s5, s6⟩
               go_simp
               with_reducible rfl
              rotate_left
              ·simp only [Act.put, List.setIfInBounds_toArray, List.set_cons_zero, List.set_cons_succ, i64_w, i32_w]
               rfl
              refine take_ (i := 4) (N := some 34) (v := ?_) (a' := ?_) #[true, true, true, true, true, false, false, false, false, false, false] rfl rfl (take_ofW HT_.out HW_.out (by kernel_rfl)) (fun _ _ _ h => h) (Or.inl ⟨by rfl, ?_⟩) hHeld ?_ ?_
              rotate_left
              ·rintro w' ⟨s0, s1, s2, s3, s4, s5, s6⟩
               go_simp
               with_reducible rfl
              rotate_left
              ·simp only [Act.put, List.setIfInBounds_toArray, List.set_cons_zero, List.set_cons_succ, i64_w, i32_w]
               rfl
              refine one_ (i := 5) (N := some 35) #[true, true, true, true, true, true, false, false, false, false, false] rfl rfl (one_of HT_.out (by kernel_rfl)) (by decide) (fun K hK => ?_)
              refine goes_ Try.func44 (by kernel_rfl) rfl #[.agg #[.string ((rd_T59 l0_1 x24_2).f0), .int .i64 ((rd_T59 l0_1 x24_2).f1), .int .i64 ((rd_T59 l0_1 x24_2).f2), .int .i64 ((rd_T59 l0_1 x24_2).f3), .int .i64 ((rd_T59 l0_1 x24_2).f4), .int .i64 ((rd_T59 l0_1 x24_2).f5)], .int .i64 (rd x7_2 x8_1)] (by rfl) rfl rfl gZ ?_
              with_reducible refine (impl_Pipe_other.calls ((rd_T59 l0_1 x24_2).f0) ((rd_T59 l0_1 x24_2).f1) ((rd_T59 l0_1 x24_2).f2) ((rd_T59 l0_1 x24_2).f3) ((rd_T59 l0_1 x24_2).f4) ((rd_T59 l0_1 x24_2).f5) (rd x7_2 x8_1) t287 true _ A15.out).mono ?_
              rintro e w34 ⟨rfl, hb⟩
              have HS6_ := (hb.cell (World.block_lt_of_cell? _ _ (hHeld.2.2.2.2.2.2))).trans (hHeld.2.2.2.2.2.2)
              refine ⟨_, rfl, ?_⟩
              have n0_ := Aside0.mk (Kd.R_below (Kd.rZ HO_7.out) hb)
              have n1_ := Aside0.mk (blk_below (g := gb279) (o := .cells #[.slice A0_0 l0_0.length c0_0, .slice (some ad284) l0_1.length c0_1] 31 (0, 0)) (kZ BK279.out) hb)
              have n2_ := Aside0.mk (blk_below (g := gb285) (o := .cells #[.string ((rd_T59 l0_1 x24_2).f0), .int .i64 ((rd_T59 l0_1 x24_2).f1), .int .i64 ((rd_T59 l0_1 x24_2).f2), .int .i64 ((rd_T59 l0_1 x24_2).f3), .int .i64 ((rd_T59 l0_1 x24_2).f4), .int .i64 ((rd_T59 l0_1 x24_2).f5)] 59 (0, 0)) (kZ BK285.out) hb)
              have n3_ := Aside0.mk (below_step bZ hb)
              clear HO_7; clear BK279; clear BK285; clear HB
              have HO_7 := n0_
              have BK279 := n1_
              have BK285 := n2_
              have HB := n3_
              clear n0_ n1_ n2_ n3_
              (try clear hb)
              (try clear hb2)
              (try clear hk)
              (try clear hi)
              refine hK.out _ _ ⟨(blk_cell BK285.out 0).trans rfl, (blk_cell BK285.out 1).trans rfl, (blk_cell BK285.out 2).trans rfl, (blk_cell BK285.out 3).trans rfl, (blk_cell BK285.out 4).trans rfl, (blk_cell BK285.out 5).trans rfl, HS6_⟩ (fun hHeld => ?_)
              clear hK K
              refine norm_ (a' := ?_) ?_ ?_
              rotate_left
              ·show Act.put _ (some 35) _ = _
               simp only [Act.put, List.setIfInBounds_toArray, List.set_cons_zero, List.set_cons_succ, i64_w, i32_w]
               rfl
              refine puZ 6 (some 29) #[true, true, true, true, true, true, true, false, false, false, false] rfl rfl HT_.out ?_
              refine puZ 7 (some 36) #[true, true, true, true, true, true, true, true, false, false, false] rfl rfl HT_.out ?_
              refine puZ 8 (some 37) #[true, true, true, true, true, true, true, true, true, false, false] rfl rfl HT_.out ?_
              refine puZ 9 (some 11) #[true, true, true, true, true, true, true, true, true, true, false] rfl rfl HT_.out ?_
              refine puZ 10 (some 12) #[true, true, true, true, true, true, true, true, true, true, true] rfl rfl HT_.out ?_
              refine done_ (done_of HT_.out (by kernel_rfl)) ?_
              try go_wp2_with (first | (go_at_call 45; (with_reducible refine (slices_Contains_int64S.calls k2 _ _ l2 x24_2 false _ ?side1 ?side2 A17.out).mono ?_); (case side1 => repeat (first | exact (Kd.C_below HR2.out HB.out) | (with_reducible refine Kd.C_alloc ?_ _) | (with_reducible refine Kd.C_drewN ?_ _) | (with_reducible refine Kd.C_drew ?_))); (case side2 => exact HC2.out); rintro e w' ⟨rfl, ⟨nd, rfl⟩⟩) | (go_at_call 45; (with_reducible refine (slices_Contains_int64S.calls k2 _ _ x7_2 t287 true _ ?side1 ?side2 A26.out).mono ?_); (case side1 => exact Kd.cZ HO_7.out); (case side2 => exact (Kd.R_reads' HO_7.out).2.1); rintro e w' ⟨rfl, ⟨nd, rfl⟩⟩))
              go_roundg k2
              case measure => have := HK1.out; have := HK2.out; omega
              case rel => exact ⟨(x7_2), (wrap64 (x24_2 + 1)), sZ, H', ⟨by have := HK1.out; have := HK2.out; omega⟩, ⟨Kd.rZ HO_7.out⟩, ⟨kZ BK279.out⟩, ⟨bZ⟩⟩
             ·replace c27 := Bool.eq_false_iff.mpr c27
              subst c27
              have H1 : (if x7_2.length < 17592186044416 then (impl_Network_reached.l1 k2 l2 (x7_2 ++ [t287]) x8_1 l0_1 (l0_1.length : Int) (wrap64 (x24_2 + 1)) l0_0 l0_1) else (none)) = some r := by rw [if_neg (show ¬ (false = true) by decide)] at H; exact H
              clear H
              have H := H1
              clear H1
              by_cases c35 : x7_2.length < 17592186044416
              ·rw [if_pos c35] at H
               have LMc35 := Aside0.mk c35
               clear c35
               obtain ⟨y291, hy291⟩ : ∃ y_ : List Int, y_ = (x7_2 ++ [t287]) := ⟨_, rfl⟩
               replace H : (impl_Network_reached.l1 k2 l2 y291 x8_1 l0_1 (l0_1.length : Int) (wrap64 (x24_2 + 1)) l0_0 l0_1) = some r := by first | (rw [hy291]; with_reducible exact H) | (have H2_ := (Option.bind_some _ _).symm.trans H; rw [hy291]; with_reducible exact H2_) | (have H2_ := (Option.bind_some _ _).symm.trans H; with_reducible exact H2_) | with_reducible exact H | (rw [hy291]; exact H) | exact H
               have Ny291 := Aside0.mk hy291
               clear hy291
               have H' := Aside0.mk H
               clear H
               have p284 : 0 ≤ (x24_2 : Int) := oZ
               have q284 : x24_2 < (l0_1.length : Int) := oZ
               obtain ⟨ad284, e284, hx284_0, hx284_1, hx284_2, hx284_3, hx284_4, hx284_5⟩ := at_T59 HR0_1.out x24_2 p284 q284
               cases e284
               replace hx284_0 := (HB.out.cell (World.block_lt_of_cell? w _ hx284_0)).trans hx284_0
               replace hx284_1 := (HB.out.cell (World.block_lt_of_cell? w _ hx284_1)).trans hx284_1
               replace hx284_2 := (HB.out.cell (World.block_lt_of_cell? w _ hx284_2)).trans hx284_2
               replace hx284_3 := (HB.out.cell (World.block_lt_of_cell? w _ hx284_3)).trans hx284_3
               replace hx284_4 := (HB.out.cell (World.block_lt_of_cell? w _ hx284_4)).trans hx284_4
               replace hx284_5 := (HB.out.cell (World.block_lt_of_cell? w _ hx284_5)).trans hx284_5
               replace p284 := eq_true p284
               replace q284 := eq_true q284
               try go_wp2_with (first | ((with_reducible refine gate_dst (N := 10) rfl ?_); refine boxZ 10 #[.string (⟨#[]⟩ : ByteArray), .int .i64 0, .int .i64 0, .int .i64 0, .int .i64 0, .int .i64 0] 59 rfl rfl ?_; intro gb285 hg w36 hbox hb; have n0_ := Aside0.mk (Kd.R_below (Kd.rZ HO_7.out) hb); have n1_ := Aside0.mk (blk_below (g := gb279) (o := .cells #[.slice A0_0 l0_0.length c0_0, .slice (some ad284) l0_1.length c0_1] 31 (0, 0)) (kZ BK279.out) hb); have n2_ := Aside0.mk (below_step bZ hb); have n3_ := Aside0.mk (hbox); have n4_ := Aside0.mk ((by rw [hg]; exact bsZ : w.heap.size ≤ gb285)); have n5_ := Aside0.mk ((by rw [hg]; exact bsZ : w.heap.size ≤ gb285)); have n6_ := Aside0.mk ((by rw [hg]; exact Nat.ne_of_lt (blk_lt (g := gb279) (o := .cells #[.slice A0_0 l0_0.length c0_0, .slice (some ad284) l0_1.length c0_1] 31 (0, 0)) (kZ BK279.out)) : gb279 ≠ gb285)); have n7_ := Aside0.mk ((by rw [hg]; exact Nat.ne_of_gt (blk_lt (g := gb279) (o := .cells #[.slice A0_0 l0_0.length c0_0, .slice (some ad284) l0_1.length c0_1] 31 (0, 0)) (kZ BK279.out)) : gb285 ≠ gb279)); clear HO_7; clear BK279; clear HB; have HO_7 := n0_; have BK279 := n1_; have HB := n2_; have BK285 := n3_; have GW285 := n4_; have GE285 := n5_; have NB279_285 := n6_; have NB285_279 := n7_; clear n0_ n1_ n2_ n3_ n4_ n5_ n6_ n7_; clear hb hbox hg; have hnb37 := NB285_279.out; have hnc37 := NB279_285.out; have hcz38_0 := bc0 BK285.out; have hcz38_1 := bc1 BK285.out; have hcz38_2 := bc2 BK285.out; have hcz38_3 := bc3 BK285.out; have hcz38_4 := bc4 BK285.out; have hcz38_5 := bc5 BK285.out; have hfz38_0 := blk_frozen BK285.out 0; have hfz38_1 := blk_frozen BK285.out 1; have hfz38_2 := blk_frozen BK285.out 2; have hfz38_3 := blk_frozen BK285.out 3; have hfz38_4 := blk_frozen BK285.out 4; have hfz38_5 := blk_frozen BK285.out 5))
               have n0_ : Aside0 (Kd.R (Kd.int .i64) 2 ((((((w36.setCell ⟨gb285, 0, none⟩ (.string ((rd_T59 l0_1 x24_2).f0))).setCell ⟨gb285, 1, none⟩ (.int .i64 ((rd_T59 l0_1 x24_2).f1))).setCell ⟨gb285, 2, none⟩ (.int .i64 ((rd_T59 l0_1 x24_2).f2))).setCell ⟨gb285, 3, none⟩ (.int .i64 ((rd_T59 l0_1 x24_2).f3))).setCell ⟨gb285, 4, none⟩ (.int .i64 ((rd_T59 l0_1 x24_2).f4))).setCell ⟨gb285, 5, none⟩ (.int .i64 ((rd_T59 l0_1 x24_2).f5))) w.heap.size (fun _ => True) u7 x7_2) := ⟨Kd.rZ (Kd.R_mono (Kd.R_far (p := ⟨gb285, 5, none⟩) (Kd.R_far (p := ⟨gb285, 4, none⟩) (Kd.R_far (p := ⟨gb285, 3, none⟩) (Kd.R_far (p := ⟨gb285, 2, none⟩) (Kd.R_far (p := ⟨gb285, 1, none⟩) (Kd.R_far (p := ⟨gb285, 0, none⟩) (Kd.R_types HO_7.out BK285.out (by decide)) (fun _ hk => hk.2) (.string ((rd_T59 l0_1 x24_2).f0))) (fun _ hk => hk.2) (.int .i64 ((rd_T59 l0_1 x24_2).f1))) (fun _ hk => hk.2) (.int .i64 ((rd_T59 l0_1 x24_2).f2))) (fun _ hk => hk.2) (.int .i64 ((rd_T59 l0_1 x24_2).f3))) (fun _ hk => hk.2) (.int .i64 ((rd_T59 l0_1 x24_2).f4))) (fun _ hk => hk.2) (.int .i64 ((rd_T59 l0_1 x24_2).f5))) (fun _ hk => trivial))⟩
               have n1_ : Aside0 (((((((w36.setCell ⟨gb285, 0, none⟩ (.string ((rd_T59 l0_1 x24_2).f0))).setCell ⟨gb285, 1, none⟩ (.int .i64 ((rd_T59 l0_1 x24_2).f1))).setCell ⟨gb285, 2, none⟩ (.int .i64 ((rd_T59 l0_1 x24_2).f2))).setCell ⟨gb285, 3, none⟩ (.int .i64 ((rd_T59 l0_1 x24_2).f3))).setCell ⟨gb285, 4, none⟩ (.int .i64 ((rd_T59 l0_1 x24_2).f4))).setCell ⟨gb285, 5, none⟩ (.int .i64 ((rd_T59 l0_1 x24_2).f5))).heap[gb279]? = some (.cells #[.slice A0_0 l0_0.length c0_0, .slice (some ad284) l0_1.length c0_1] 31 (0, 0))) := ⟨by (with_reducible repeat (first | refine blk_drewN ?_ _ | refine blk_drew ?_ | refine blk_alloc ?_ _)); refine blk_far ?_ NB279_285.out _; (with_reducible repeat (first | refine blk_drewN ?_ _ | refine blk_drew ?_ | refine blk_alloc ?_ _)); refine blk_far ?_ NB279_285.out _; (with_reducible repeat (first | refine blk_drewN ?_ _ | refine blk_drew ?_ | refine blk_alloc ?_ _)); refine blk_far ?_ NB279_285.out _; (with_reducible repeat (first | refine blk_drewN ?_ _ | refine blk_drew ?_ | refine blk_alloc ?_ _)); refine blk_far ?_ NB279_285.out _; (with_reducible repeat (first | refine blk_drewN ?_ _ | refine blk_drew ?_ | refine blk_alloc ?_ _)); refine blk_far ?_ NB279_285.out _; (with_reducible repeat (first | refine blk_drewN ?_ _ | refine blk_drew ?_ | refine blk_alloc ?_ _)); refine blk_far ?_ NB279_285.out _; (with_reducible repeat (first | refine blk_drewN ?_ _ | refine blk_drew ?_ | refine blk_alloc ?_ _)); exact BK279.out⟩
               have n2_ : Aside0 (((((((w36.setCell ⟨gb285, 0, none⟩ (.string ((rd_T59 l0_1 x24_2).f0))).setCell ⟨gb285, 1, none⟩ (.int .i64 ((rd_T59 l0_1 x24_2).f1))).setCell ⟨gb285, 2, none⟩ (.int .i64 ((rd_T59 l0_1 x24_2).f2))).setCell ⟨gb285, 3, none⟩ (.int .i64 ((rd_T59 l0_1 x24_2).f3))).setCell ⟨gb285, 4, none⟩ (.int .i64 ((rd_T59 l0_1 x24_2).f4))).setCell ⟨gb285, 5, none⟩ (.int .i64 ((rd_T59 l0_1 x24_2).f5))).heap[gb285]? = some (.cells #[.string ((rd_T59 l0_1 x24_2).f0), .int .i64 ((rd_T59 l0_1 x24_2).f1), .int .i64 ((rd_T59 l0_1 x24_2).f2), .int .i64 ((rd_T59 l0_1 x24_2).f3), .int .i64 ((rd_T59 l0_1 x24_2).f4), .int .i64 ((rd_T59 l0_1 x24_2).f5)] 59 (0, 0))) := ⟨by (with_reducible repeat (first | refine blk_drewN ?_ _ | refine blk_drew ?_ | refine blk_alloc ?_ _)); refine blk_put (cs := #[.string ((rd_T59 l0_1 x24_2).f0), .int .i64 ((rd_T59 l0_1 x24_2).f1), .int .i64 ((rd_T59 l0_1 x24_2).f2), .int .i64 ((rd_T59 l0_1 x24_2).f3), .int .i64 ((rd_T59 l0_1 x24_2).f4), .int .i64 0]) ?_ 5 _ rfl; (with_reducible repeat (first | refine blk_drewN ?_ _ | refine blk_drew ?_ | refine blk_alloc ?_ _)); refine blk_put (cs := #[.string ((rd_T59 l0_1 x24_2).f0), .int .i64 ((rd_T59 l0_1 x24_2).f1), .int .i64 ((rd_T59 l0_1 x24_2).f2), .int .i64 ((rd_T59 l0_1 x24_2).f3), .int .i64 0, .int .i64 0]) ?_ 4 _ rfl; (with_reducible repeat (first | refine blk_drewN ?_ _ | refine blk_drew ?_ | refine blk_alloc ?_ _)); refine blk_put (cs := #[.string ((rd_T59 l0_1 x24_2).f0), .int .i64 ((rd_T59 l0_1 x24_2).f1), .int .i64 ((rd_T59 l0_1 x24_2).f2), .int .i64 0, .int .i64 0, .int .i64 0]) ?_ 3 _ rfl; (with_reducible repeat (first | refine blk_drewN ?_ _ | refine blk_drew ?_ | refine blk_alloc ?_ _)); refine blk_put (cs := #[.string ((rd_T59 l0_1 x24_2).f0), .int .i64 ((rd_T59 l0_1 x24_2).f1), .int .i64 0, .int .i64 0, .int .i64 0, .int .i64 0]) ?_ 2 _ rfl; (with_reducible repeat (first | refine blk_drewN ?_ _ | refine blk_drew ?_ | refine blk_alloc ?_ _)); refine blk_put (cs := #[.string ((rd_T59 l0_1 x24_2).f0), .int .i64 0, .int .i64 0, .int .i64 0, .int .i64 0, .int .i64 0]) ?_ 1 _ rfl; (with_reducible repeat (first | refine blk_drewN ?_ _ | refine blk_drew ?_ | refine blk_alloc ?_ _)); refine blk_put (cs := #[.string (⟨#[]⟩ : ByteArray), .int .i64 0, .int .i64 0, .int .i64 0, .int .i64 0, .int .i64 0]) ?_ 0 _ rfl; (with_reducible repeat (first | refine blk_drewN ?_ _ | refine blk_drew ?_ | refine blk_alloc ?_ _)); exact BK285.out⟩
               have n3_ : Aside0 (Below w.heap.size w ((((((w36.setCell ⟨gb285, 0, none⟩ (.string ((rd_T59 l0_1 x24_2).f0))).setCell ⟨gb285, 1, none⟩ (.int .i64 ((rd_T59 l0_1 x24_2).f1))).setCell ⟨gb285, 2, none⟩ (.int .i64 ((rd_T59 l0_1 x24_2).f2))).setCell ⟨gb285, 3, none⟩ (.int .i64 ((rd_T59 l0_1 x24_2).f3))).setCell ⟨gb285, 4, none⟩ (.int .i64 ((rd_T59 l0_1 x24_2).f4))).setCell ⟨gb285, 5, none⟩ (.int .i64 ((rd_T59 l0_1 x24_2).f5)))) := ⟨bZ⟩
               (try clear HO_7)
               (try clear BK279)
               (try clear BK285)
               (try clear HB)
               generalize ((((((w36.setCell ⟨gb285, 0, none⟩ (.string ((rd_T59 l0_1 x24_2).f0))).setCell ⟨gb285, 1, none⟩ (.int .i64 ((rd_T59 l0_1 x24_2).f1))).setCell ⟨gb285, 2, none⟩ (.int .i64 ((rd_T59 l0_1 x24_2).f2))).setCell ⟨gb285, 3, none⟩ (.int .i64 ((rd_T59 l0_1 x24_2).f3))).setCell ⟨gb285, 4, none⟩ (.int .i64 ((rd_T59 l0_1 x24_2).f4))).setCell ⟨gb285, 5, none⟩ (.int .i64 ((rd_T59 l0_1 x24_2).f5))) = w39 at n0_ n1_ n2_ n3_ ⊢
               have HO_7 := n0_
               have BK279 := n1_
               have BK285 := n2_
               have HB := n3_
               clear n0_ n1_ n2_ n3_
               have n0_ := Aside0.mk (Kd.R_drew HO_7.out)
               have n1_ := Aside0.mk (blk_drew BK279.out)
               have n2_ := Aside0.mk (blk_drew BK285.out)
               have n3_ := Aside0.mk (below_drew1 HB.out)
               clear HO_7; clear BK279; clear BK285; clear HB
               have HO_7 := n0_
               have BK279 := n1_
               have BK285 := n2_
               have HB := n3_
               clear n0_ n1_ n2_ n3_
               obtain ⟨Ao41, co41, eo41⟩ := Kd.R_slice HO_7.out
               (first | subst eo41 | (injection eo41 with f1_ f2_ f3_; have f4_ := f1_.symm; have f5_ := f3_.symm; clear f1_ f2_ f3_; subst f4_; subst f5_))
               have p286 : 0 ≤ (x8_1 : Int) := oZ
               have q286 : x8_1 < (x7_2.length : Int) := oZ
               obtain ⟨ad286, e286, hx286_0⟩ := Kd.at_int (Kd.R_reads' HO_7.out).2.2 x8_1 p286 q286
               cases e286
               replace p286 := eq_true p286
               replace q286 := eq_true q286
               refine start_ (n := 11) (S := fun w' => w'.cell? ⟨gb285, 0, none⟩ = some (.string ((rd_T59 l0_1 x24_2).f0)) ∧ w'.cell? ⟨gb285, 1, none⟩ = some (.int .i64 ((rd_T59 l0_1 x24_2).f1)) ∧ w'.cell? ⟨gb285, 2, none⟩ = some (.int .i64 ((rd_T59 l0_1 x24_2).f2)) ∧ w'.cell? ⟨gb285, 3, none⟩ = some (.int .i64 ((rd_T59 l0_1 x24_2).f3)) ∧ w'.cell? ⟨gb285, 4, none⟩ = some (.int .i64 ((rd_T59 l0_1 x24_2).f4)) ∧ w'.cell? ⟨gb285, 5, none⟩ = some (.int .i64 ((rd_T59 l0_1 x24_2).f5)) ∧ w'.cell? (ad286.add (x8_1).toNat) = some (.int .i64 (rd x7_2 x8_1))) (ds := []) #[false, false, false, false, false, false, false, false, false, false, false] (by kernel_rfl) rfl rfl ⟨(blk_cell BK285.out 0).trans rfl, (blk_cell BK285.out 1).trans rfl, (blk_cell BK285.out 2).trans rfl, (blk_cell BK285.out 3).trans rfl, (blk_cell BK285.out 4).trans rfl, (blk_cell BK285.out 5).trans rfl, hx286_0⟩ (fun hHeld => ?_); refine with_tabW impl_Network_reached.tab8 impl_Network_reached.bits8 (fun HT_ HW_ => ?_)
               generalize w39.drew = w40 at HO_7 BK279 BK285 HB hx286_0 hHeld ⊢
               refine puZ 1 (some 31) #[false, true, false, false, false, false, false, false, false, false, false] rfl rfl HT_.out ?_
               refine puZ 2 (some 32) #[false, true, true, false, false, false, false, false, false, false, false] rfl rfl HT_.out ?_
               refine puZ 3 (some 33) #[false, true, true, true, false, false, false, false, false, false, false] rfl rfl HT_.out ?_
               refine take_ (i := 0) (N := some 30) (v := ?_) (a' := ?_) #[true, true, true, true, false, false, false, false, false, false, false] rfl rfl (take_ofW HT_.out HW_.out (by kernel_rfl)) (fun _ _ _ h => h) (Or.inl ⟨by rfl, ?_⟩) hHeld ?_ ?_
               rotate_left
               ·rintro w' ⟨s0, s1, s2, s3, s4, s5, s6⟩
                go_simp
                with_reducible rfl
               rotate_left
               ·simp only [Act.put, List.setIfInBounds_toArray, List.set_cons_zero, List.set_cons_succ, i64_w, i32_w]
                rfl
               refine take_ (i := 4) (N := some 34) (v := ?_) (a' := ?_) #[true, true, true, true, true, false, false, false, false, false, false] rfl rfl (take_ofW HT_.out HW_.out (by kernel_rfl)) (fun _ _ _ h => h) (Or.inl ⟨by rfl, ?_⟩) hHeld ?_ ?_
               rotate_left
               ·rintro w' ⟨s0, s1, s2, s3, s4, s5, s6⟩
                go_simp
                with_reducible rfl
               rotate_left
               ·simp only [Act.put, List.setIfInBounds_toArray, List.set_cons_zero, List.set_cons_succ, i64_w, i32_w]
                rfl
               refine one_ (i := 5) (N := some 35) #[true, true, true, true, true, true, false, false, false, false, false] rfl rfl (one_of HT_.out (by kernel_rfl)) (by decide) (fun K hK => ?_)
               refine goes_ Try.func44 (by kernel_rfl) rfl #[.agg #[.string ((rd_T59 l0_1 x24_2).f0), .int .i64 ((rd_T59 l0_1 x24_2).f1), .int .i64 ((rd_T59 l0_1 x24_2).f2), .int .i64 ((rd_T59 l0_1 x24_2).f3), .int .i64 ((rd_T59 l0_1 x24_2).f4), .int .i64 ((rd_T59 l0_1 x24_2).f5)], .int .i64 (rd x7_2 x8_1)] (by rfl) rfl rfl gZ ?_
               with_reducible refine (impl_Pipe_other.calls ((rd_T59 l0_1 x24_2).f0) ((rd_T59 l0_1 x24_2).f1) ((rd_T59 l0_1 x24_2).f2) ((rd_T59 l0_1 x24_2).f3) ((rd_T59 l0_1 x24_2).f4) ((rd_T59 l0_1 x24_2).f5) (rd x7_2 x8_1) t287 true _ A15.out).mono ?_
               rintro e w42 ⟨rfl, hb⟩
               have HS6_ := (hb.cell (World.block_lt_of_cell? _ _ (hHeld.2.2.2.2.2.2))).trans (hHeld.2.2.2.2.2.2)
               refine ⟨_, rfl, ?_⟩
               have n0_ := Aside0.mk (Kd.R_below (Kd.rZ HO_7.out) hb)
               have n1_ := Aside0.mk (blk_below (g := gb279) (o := .cells #[.slice A0_0 l0_0.length c0_0, .slice (some ad284) l0_1.length c0_1] 31 (0, 0)) (kZ BK279.out) hb)
               have n2_ := Aside0.mk (blk_below (g := gb285) (o := .cells #[.string ((rd_T59 l0_1 x24_2).f0), .int .i64 ((rd_T59 l0_1 x24_2).f1), .int .i64 ((rd_T59 l0_1 x24_2).f2), .int .i64 ((rd_T59 l0_1 x24_2).f3), .int .i64 ((rd_T59 l0_1 x24_2).f4), .int .i64 ((rd_T59 l0_1 x24_2).f5)] 59 (0, 0)) (kZ BK285.out) hb)
               have n3_ := Aside0.mk (below_step bZ hb)
               clear HO_7; clear BK279; clear BK285; clear HB
               have HO_7 := n0_
               have BK279 := n1_
               have BK285 := n2_
               have HB := n3_
               clear n0_ n1_ n2_ n3_
               (try clear hb)
               (try clear hb2)
               (try clear hk)
               (try clear hi)
               refine hK.out _ _ ⟨(blk_cell BK285.out 0).trans rfl, (blk_cell BK285.out 1).trans rfl, (blk_cell BK285.out 2).trans rfl, (blk_cell BK285.out 3).trans rfl, (blk_cell BK285.out 4).trans rfl, (blk_cell BK285.out 5).trans rfl, HS6_⟩ (fun hHeld => ?_)
               clear hK K
               refine norm_ (a' := ?_) ?_ ?_
               rotate_left
               ·show Act.put _ (some 35) _ = _
                simp only [Act.put, List.setIfInBounds_toArray, List.set_cons_zero, List.set_cons_succ, i64_w, i32_w]
                rfl
               refine puZ 6 (some 29) #[true, true, true, true, true, true, true, false, false, false, false] rfl rfl HT_.out ?_
               refine puZ 7 (some 36) #[true, true, true, true, true, true, true, true, false, false, false] rfl rfl HT_.out ?_
               refine puZ 8 (some 37) #[true, true, true, true, true, true, true, true, true, false, false] rfl rfl HT_.out ?_
               refine puZ 9 (some 11) #[true, true, true, true, true, true, true, true, true, true, false] rfl rfl HT_.out ?_
               refine puZ 10 (some 12) #[true, true, true, true, true, true, true, true, true, true, true] rfl rfl HT_.out ?_
               refine done_ (done_of HT_.out (by kernel_rfl)) ?_
               try go_wp2_with (first | (go_at_call 45; (with_reducible refine (slices_Contains_int64S.calls k2 _ _ l2 x24_2 false _ ?side1 ?side2 A17.out).mono ?_); (case side1 => repeat (first | exact (Kd.C_below HR2.out HB.out) | (with_reducible refine Kd.C_alloc ?_ _) | (with_reducible refine Kd.C_drewN ?_ _) | (with_reducible refine Kd.C_drew ?_))); (case side2 => exact HC2.out); rintro e w' ⟨rfl, ⟨nd, rfl⟩⟩) | (go_at_call 45; (with_reducible refine (slices_Contains_int64S.calls k2 _ _ x7_2 t287 false _ ?side1 ?side2 A26.out).mono ?_); (case side1 => exact Kd.cZ HO_7.out); (case side2 => exact (Kd.R_reads' HO_7.out).2.1); rintro e w' ⟨rfl, ⟨nd, rfl⟩⟩) | ((with_reducible refine gate_builtin (b := .append) (xs := #[.tmp 51, .tmp 53]) rfl ?_); at_builtin; refine Kd.R_append (Kd.int .i64) (w0 := w) w.heap.size rfl (.tmp 51) (.tmp 53) 22 2 (.int .i64 0) 8 rfl Try.underlying22 info2 rfl (by decide) (by omega) (.slice (some ad286) x7_2.length co41) x7_2 t287 [.int .i64 t287] (fun _ => True) (fun _ => False) rfl rfl ?aP (fun _ hk => hk.elim) ?aF ?aO ?aB ?aS ?aL ?_; (case aP => exact rfl); (case aB => exact bZ); (case aF => exact (fun _ _ => trivial)); (case aO => exact (Kd.rZ HO_7.out)); (case aS => exact bsZ); (case aL => have := LMc35.out; omega); intro v292 w43 ho hb hg hat; rw [← Ny291.out] at ho; have n0_ := Aside0.mk (blk_grown (g := gb279) (o := .cells #[.slice A0_0 l0_0.length c0_0, .slice (some ad284) l0_1.length c0_1] 31 (0, 0)) (kZ BK279.out) hg (Kd.R_ne HO_7.out BK279.out (by decide))); have n1_ := Aside0.mk (blk_grown (g := gb285) (o := .cells #[.string ((rd_T59 l0_1 x24_2).f0), .int .i64 ((rd_T59 l0_1 x24_2).f1), .int .i64 ((rd_T59 l0_1 x24_2).f2), .int .i64 ((rd_T59 l0_1 x24_2).f3), .int .i64 ((rd_T59 l0_1 x24_2).f4), .int .i64 ((rd_T59 l0_1 x24_2).f5)] 59 (0, 0)) (kZ BK285.out) hg (Kd.R_ne HO_7.out BK285.out (by decide))); have n2_ := Aside0.mk (hb); have n3_ := Aside0.mk (ho); clear BK279; clear BK285; clear HB; clear HO_7; have BK279 := n0_; have BK285 := n1_; have HB := n2_; have HO293 := n3_; clear n0_ n1_ n2_ n3_; clear ho hb hg hat))
               go_roundg k2
               case measure => have := HK1.out; have := HK2.out; omega
               case rel => exact ⟨(y291), (wrap64 (x24_2 + 1)), sZ, H', ⟨by have := HK1.out; have := HK2.out; omega⟩, ⟨Kd.rZ HO293.out⟩, ⟨kZ BK279.out⟩, ⟨bZ⟩⟩
              ·rw [if_neg c35] at H
               exact absurd H (by simp)
           ·replace c16 := Bool.eq_false_iff.mpr c16
            subst c16
            have H1 : (impl_Network_reached.l1 k2 l2 x7_2 x8_1 l0_1 (l0_1.length : Int) (wrap64 (x24_2 + 1)) l0_0 l0_1) = some r := by rw [if_neg (show ¬ (false = true) by decide)] at H; exact H
            clear H
            have H := H1
            clear H1
            have H' := Aside0.mk H
            clear H
            have p284 : 0 ≤ (x24_2 : Int) := oZ
            have q284 : x24_2 < (l0_1.length : Int) := oZ
            obtain ⟨ad284, e284, hx284_0, hx284_1, hx284_2, hx284_3, hx284_4, hx284_5⟩ := at_T59 HR0_1.out x24_2 p284 q284
            cases e284
            replace hx284_0 := (HB.out.cell (World.block_lt_of_cell? w _ hx284_0)).trans hx284_0
            replace hx284_1 := (HB.out.cell (World.block_lt_of_cell? w _ hx284_1)).trans hx284_1
            replace hx284_2 := (HB.out.cell (World.block_lt_of_cell? w _ hx284_2)).trans hx284_2
            replace hx284_3 := (HB.out.cell (World.block_lt_of_cell? w _ hx284_3)).trans hx284_3
            replace hx284_4 := (HB.out.cell (World.block_lt_of_cell? w _ hx284_4)).trans hx284_4
            replace hx284_5 := (HB.out.cell (World.block_lt_of_cell? w _ hx284_5)).trans hx284_5
            replace p284 := eq_true p284
            replace q284 := eq_true q284
            try go_wp2_with (first | ((with_reducible refine gate_dst (N := 10) rfl ?_); refine boxZ 10 #[.string (⟨#[]⟩ : ByteArray), .int .i64 0, .int .i64 0, .int .i64 0, .int .i64 0, .int .i64 0] 59 rfl rfl ?_; intro gb285 hg w44 hbox hb; have n0_ := Aside0.mk (Kd.R_below (Kd.rZ HO_7.out) hb); have n1_ := Aside0.mk (blk_below (g := gb279) (o := .cells #[.slice A0_0 l0_0.length c0_0, .slice (some ad284) l0_1.length c0_1] 31 (0, 0)) (kZ BK279.out) hb); have n2_ := Aside0.mk (below_step bZ hb); have n3_ := Aside0.mk (hbox); have n4_ := Aside0.mk ((by rw [hg]; exact bsZ : w.heap.size ≤ gb285)); have n5_ := Aside0.mk ((by rw [hg]; exact bsZ : w.heap.size ≤ gb285)); have n6_ := Aside0.mk ((by rw [hg]; exact Nat.ne_of_lt (blk_lt (g := gb279) (o := .cells #[.slice A0_0 l0_0.length c0_0, .slice (some ad284) l0_1.length c0_1] 31 (0, 0)) (kZ BK279.out)) : gb279 ≠ gb285)); have n7_ := Aside0.mk ((by rw [hg]; exact Nat.ne_of_gt (blk_lt (g := gb279) (o := .cells #[.slice A0_0 l0_0.length c0_0, .slice (some ad284) l0_1.length c0_1] 31 (0, 0)) (kZ BK279.out)) : gb285 ≠ gb279)); clear HO_7; clear BK279; clear HB; have HO_7 := n0_; have BK279 := n1_; have HB := n2_; have BK285 := n3_; have GW285 := n4_; have GE285 := n5_; have NB279_285 := n6_; have NB285_279 := n7_; clear n0_ n1_ n2_ n3_ n4_ n5_ n6_ n7_; clear hb hbox hg; have hnb45 := NB285_279.out; have hnc45 := NB279_285.out; have hcz46_0 := bc0 BK285.out; have hcz46_1 := bc1 BK285.out; have hcz46_2 := bc2 BK285.out; have hcz46_3 := bc3 BK285.out; have hcz46_4 := bc4 BK285.out; have hcz46_5 := bc5 BK285.out; have hfz46_0 := blk_frozen BK285.out 0; have hfz46_1 := blk_frozen BK285.out 1; have hfz46_2 := blk_frozen BK285.out 2; have hfz46_3 := blk_frozen BK285.out 3; have hfz46_4 := blk_frozen BK285.out 4; have hfz46_5 := blk_frozen BK285.out 5))
            have n0_ : Aside0 (Kd.R (Kd.int .i64) 2 ((((((w44.setCell ⟨gb285, 0, none⟩ (.string ((rd_T59 l0_1 x24_2).f0))).setCell ⟨gb285, 1, none⟩ (.int .i64 ((rd_T59 l0_1 x24_2).f1))).setCell ⟨gb285, 2, none⟩ (.int .i64 ((rd_T59 l0_1 x24_2).f2))).setCell ⟨gb285, 3, none⟩ (.int .i64 ((rd_T59 l0_1 x24_2).f3))).setCell ⟨gb285, 4, none⟩ (.int .i64 ((rd_T59 l0_1 x24_2).f4))).setCell ⟨gb285, 5, none⟩ (.int .i64 ((rd_T59 l0_1 x24_2).f5))) w.heap.size (fun _ => True) u7 x7_2) := ⟨Kd.rZ (Kd.R_mono (Kd.R_far (p := ⟨gb285, 5, none⟩) (Kd.R_far (p := ⟨gb285, 4, none⟩) (Kd.R_far (p := ⟨gb285, 3, none⟩) (Kd.R_far (p := ⟨gb285, 2, none⟩) (Kd.R_far (p := ⟨gb285, 1, none⟩) (Kd.R_far (p := ⟨gb285, 0, none⟩) (Kd.R_types HO_7.out BK285.out (by decide)) (fun _ hk => hk.2) (.string ((rd_T59 l0_1 x24_2).f0))) (fun _ hk => hk.2) (.int .i64 ((rd_T59 l0_1 x24_2).f1))) (fun _ hk => hk.2) (.int .i64 ((rd_T59 l0_1 x24_2).f2))) (fun _ hk => hk.2) (.int .i64 ((rd_T59 l0_1 x24_2).f3))) (fun _ hk => hk.2) (.int .i64 ((rd_T59 l0_1 x24_2).f4))) (fun _ hk => hk.2) (.int .i64 ((rd_T59 l0_1 x24_2).f5))) (fun _ hk => trivial))⟩
            have n1_ : Aside0 (((((((w44.setCell ⟨gb285, 0, none⟩ (.string ((rd_T59 l0_1 x24_2).f0))).setCell ⟨gb285, 1, none⟩ (.int .i64 ((rd_T59 l0_1 x24_2).f1))).setCell ⟨gb285, 2, none⟩ (.int .i64 ((rd_T59 l0_1 x24_2).f2))).setCell ⟨gb285, 3, none⟩ (.int .i64 ((rd_T59 l0_1 x24_2).f3))).setCell ⟨gb285, 4, none⟩ (.int .i64 ((rd_T59 l0_1 x24_2).f4))).setCell ⟨gb285, 5, none⟩ (.int .i64 ((rd_T59 l0_1 x24_2).f5))).heap[gb279]? = some (.cells #[.slice A0_0 l0_0.length c0_0, .slice (some ad284) l0_1.length c0_1] 31 (0, 0))) := ⟨by (with_reducible repeat (first | refine blk_drewN ?_ _ | refine blk_drew ?_ | refine blk_alloc ?_ _)); refine blk_far ?_ NB279_285.out _; (with_reducible repeat (first | refine blk_drewN ?_ _ | refine blk_drew ?_ | refine blk_alloc ?_ _)); refine blk_far ?_ NB279_285.out _; (with_reducible repeat (first | refine blk_drewN ?_ _ | refine blk_drew ?_ | refine blk_alloc ?_ _)); refine blk_far ?_ NB279_285.out _; (with_reducible repeat (first | refine blk_drewN ?_ _ | refine blk_drew ?_ | refine blk_alloc ?_ _)); refine blk_far ?_ NB279_285.out _; (with_reducible repeat (first | refine blk_drewN ?_ _ | refine blk_drew ?_ | refine blk_alloc ?_ _)); refine blk_far ?_ NB279_285.out _; (with_reducible repeat (first | refine blk_drewN ?_ _ | refine blk_drew ?_ | refine blk_alloc ?_ _)); refine blk_far ?_ NB279_285.out _; (with_reducible repeat (first | refine blk_drewN ?_ _ | refine blk_drew ?_ | refine blk_alloc ?_ _)); exact BK279.out⟩
            have n2_ : Aside0 (((((((w44.setCell ⟨gb285, 0, none⟩ (.string ((rd_T59 l0_1 x24_2).f0))).setCell ⟨gb285, 1, none⟩ (.int .i64 ((rd_T59 l0_1 x24_2).f1))).setCell ⟨gb285, 2, none⟩ (.int .i64 ((rd_T59 l0_1 x24_2).f2))).setCell ⟨gb285, 3, none⟩ (.int .i64 ((rd_T59 l0_1 x24_2).f3))).setCell ⟨gb285, 4, none⟩ (.int .i64 ((rd_T59 l0_1 x24_2).f4))).setCell ⟨gb285, 5, none⟩ (.int .i64 ((rd_T59 l0_1 x24_2).f5))).heap[gb285]? = some (.cells #[.string ((rd_T59 l0_1 x24_2).f0), .int .i64 ((rd_T59 l0_1 x24_2).f1), .int .i64 ((rd_T59 l0_1 x24_2).f2), .int .i64 ((rd_T59 l0_1 x24_2).f3), .int .i64 ((rd_T59 l0_1 x24_2).f4), .int .i64 ((rd_T59 l0_1 x24_2).f5)] 59 (0, 0))) := ⟨by (with_reducible repeat (first | refine blk_drewN ?_ _ | refine blk_drew ?_ | refine blk_alloc ?_ _)); refine blk_put (cs := #[.string ((rd_T59 l0_1 x24_2).f0), .int .i64 ((rd_T59 l0_1 x24_2).f1), .int .i64 ((rd_T59 l0_1 x24_2).f2), .int .i64 ((rd_T59 l0_1 x24_2).f3), .int .i64 ((rd_T59 l0_1 x24_2).f4), .int .i64 0]) ?_ 5 _ rfl; (with_reducible repeat (first | refine blk_drewN ?_ _ | refine blk_drew ?_ | refine blk_alloc ?_ _)); refine blk_put (cs := #[.string ((rd_T59 l0_1 x24_2).f0), .int .i64 ((rd_T59 l0_1 x24_2).f1), .int .i64 ((rd_T59 l0_1 x24_2).f2), .int .i64 ((rd_T59 l0_1 x24_2).f3), .int .i64 0, .int .i64 0]) ?_ 4 _ rfl; (with_reducible repeat (first | refine blk_drewN ?_ _ | refine blk_drew ?_ | refine blk_alloc ?_ _)); refine blk_put (cs := #[.string ((rd_T59 l0_1 x24_2).f0), .int .i64 ((rd_T59 l0_1 x24_2).f1), .int .i64 ((rd_T59 l0_1 x24_2).f2), .int .i64 0, .int .i64 0, .int .i64 0]) ?_ 3 _ rfl; (with_reducible repeat (first | refine blk_drewN ?_ _ | refine blk_drew ?_ | refine blk_alloc ?_ _)); refine blk_put (cs := #[.string ((rd_T59 l0_1 x24_2).f0), .int .i64 ((rd_T59 l0_1 x24_2).f1), .int .i64 0, .int .i64 0, .int .i64 0, .int .i64 0]) ?_ 2 _ rfl; (with_reducible repeat (first | refine blk_drewN ?_ _ | refine blk_drew ?_ | refine blk_alloc ?_ _)); refine blk_put (cs := #[.string ((rd_T59 l0_1 x24_2).f0), .int .i64 0, .int .i64 0, .int .i64 0, .int .i64 0, .int .i64 0]) ?_ 1 _ rfl; (with_reducible repeat (first | refine blk_drewN ?_ _ | refine blk_drew ?_ | refine blk_alloc ?_ _)); refine blk_put (cs := #[.string (⟨#[]⟩ : ByteArray), .int .i64 0, .int .i64 0, .int .i64 0, .int .i64 0, .int .i64 0]) ?_ 0 _ rfl; (with_reducible repeat (first | refine blk_drewN ?_ _ | refine blk_drew ?_ | refine blk_alloc ?_ _)); exact BK285.out⟩
            have n3_ : Aside0 (Below w.heap.size w ((((((w44.setCell ⟨gb285, 0, none⟩ (.string ((rd_T59 l0_1 x24_2).f0))).setCell ⟨gb285, 1, none⟩ (.int .i64 ((rd_T59 l0_1 x24_2).f1))).setCell ⟨gb285, 2, none⟩ (.int .i64 ((rd_T59 l0_1 x24_2).f2))).setCell ⟨gb285, 3, none⟩ (.int .i64 ((rd_T59 l0_1 x24_2).f3))).setCell ⟨gb285, 4, none⟩ (.int .i64 ((rd_T59 l0_1 x24_2).f4))).setCell ⟨gb285, 5, none⟩ (.int .i64 ((rd_T59 l0_1 x24_2).f5)))) := ⟨bZ⟩
            (try clear HO_7)
            (try clear BK279)
            (try clear BK285)
            (try clear HB)
            generalize ((((((w44.setCell ⟨gb285, 0, none⟩ (.string ((rd_T59 l0_1 x24_2).f0))).setCell ⟨gb285, 1, none⟩ (.int .i64 ((rd_T59 l0_1 x24_2).f1))).setCell ⟨gb285, 2, none⟩ (.int .i64 ((rd_T59 l0_1 x24_2).f2))).setCell ⟨gb285, 3, none⟩ (.int .i64 ((rd_T59 l0_1 x24_2).f3))).setCell ⟨gb285, 4, none⟩ (.int .i64 ((rd_T59 l0_1 x24_2).f4))).setCell ⟨gb285, 5, none⟩ (.int .i64 ((rd_T59 l0_1 x24_2).f5))) = w47 at n0_ n1_ n2_ n3_ ⊢
            have HO_7 := n0_
            have BK279 := n1_
            have BK285 := n2_
            have HB := n3_
            clear n0_ n1_ n2_ n3_
            have n0_ := Aside0.mk (Kd.R_drew HO_7.out)
            have n1_ := Aside0.mk (blk_drew BK279.out)
            have n2_ := Aside0.mk (blk_drew BK285.out)
            have n3_ := Aside0.mk (below_drew1 HB.out)
            clear HO_7; clear BK279; clear BK285; clear HB
            have HO_7 := n0_
            have BK279 := n1_
            have BK285 := n2_
            have HB := n3_
            clear n0_ n1_ n2_ n3_
            obtain ⟨Ao49, co49, eo49⟩ := Kd.R_slice HO_7.out
            (first | subst eo49 | (injection eo49 with f1_ f2_ f3_; have f4_ := f1_.symm; have f5_ := f3_.symm; clear f1_ f2_ f3_; subst f4_; subst f5_))
            have p286 : 0 ≤ (x8_1 : Int) := oZ
            have q286 : x8_1 < (x7_2.length : Int) := oZ
            obtain ⟨ad286, e286, hx286_0⟩ := Kd.at_int (Kd.R_reads' HO_7.out).2.2 x8_1 p286 q286
            cases e286
            replace p286 := eq_true p286
            replace q286 := eq_true q286
            refine start_ (n := 11) (S := fun w' => w'.cell? ⟨gb285, 0, none⟩ = some (.string ((rd_T59 l0_1 x24_2).f0)) ∧ w'.cell? ⟨gb285, 1, none⟩ = some (.int .i64 ((rd_T59 l0_1 x24_2).f1)) ∧ w'.cell? ⟨gb285, 2, none⟩ = some (.int .i64 ((rd_T59 l0_1 x24_2).f2)) ∧ w'.cell? ⟨gb285, 3, none⟩ = some (.int .i64 ((rd_T59 l0_1 x24_2).f3)) ∧ w'.cell? ⟨gb285, 4, none⟩ = some (.int .i64 ((rd_T59 l0_1 x24_2).f4)) ∧ w'.cell? ⟨gb285, 5, none⟩ = some (.int .i64 ((rd_T59 l0_1 x24_2).f5)) ∧ w'.cell? (ad286.add (x8_1).toNat) = some (.int .i64 (rd x7_2 x8_1))) (ds := []) #[false, false, false, false, false, false, false, false, false, false, false] (by kernel_rfl) rfl rfl ⟨(blk_cell BK285.out 0).trans rfl, (blk_cell BK285.out 1).trans rfl, (blk_cell BK285.out 2).trans rfl, (blk_cell BK285.out 3).trans rfl, (blk_cell BK285.out 4).trans rfl, (blk_cell BK285.out 5).trans rfl, hx286_0⟩ (fun hHeld => ?_); refine with_tabW impl_Network_reached.tab8 impl_Network_reached.bits8 (fun HT_ HW_ => ?_)
            generalize w47.drew = w48 at HO_7 BK279 BK285 HB hx286_0 hHeld ⊢
            refine puZ 1 (some 31) #[false, true, false, false, false, false, false, false, false, false, false] rfl rfl HT_.out ?_
            refine puZ 2 (some 32) #[false, true, true, false, false, false, false, false, false, false, false] rfl rfl HT_.out ?_
            refine puZ 3 (some 33) #[false, true, true, true, false, false, false, false, false, false, false] rfl rfl HT_.out ?_
            refine take_ (i := 0) (N := some 30) (v := ?_) (a' := ?_) #[true, true, true, true, false, false, false, false, false, false, false] rfl rfl (take_ofW HT_.out HW_.out (by kernel_rfl)) (fun _ _ _ h => h) (Or.inl ⟨by rfl, ?_⟩) hHeld ?_ ?_
            rotate_left
            ·rintro w' ⟨s0, s1, s2, s3, s4, s5, s6⟩
             go_simp
             with_reducible rfl
            rotate_left
            ·simp only [Act.put, List.setIfInBounds_toArray, List.set_cons_zero, List.set_cons_succ, i64_w, i32_w]
             rfl
            refine take_ (i := 4) (N := some 34) (v := ?_) (a' := ?_) #[true, true, true, true, true, false, false, false, false, false, false] rfl rfl (take_ofW HT_.out HW_.out (by kernel_rfl)) (fun _ _ _ h => h) (Or.inl ⟨by rfl, ?_⟩) hHeld ?_ ?_
            rotate_left
            ·rintro w' ⟨s0, s1, s2, s3, s4, s5, s6⟩
             go_simp
             with_reducible rfl
            rotate_left
            ·simp only [Act.put, List.setIfInBounds_toArray, List.set_cons_zero, List.set_cons_succ, i64_w, i32_w]
             rfl
            refine one_ (i := 5) (N := some 35) #[true, true, true, true, true, true, false, false, false, false, false] rfl rfl (one_of HT_.out (by kernel_rfl)) (by decide) (fun K hK => ?_)
            refine goes_ Try.func44 (by kernel_rfl) rfl #[.agg #[.string ((rd_T59 l0_1 x24_2).f0), .int .i64 ((rd_T59 l0_1 x24_2).f1), .int .i64 ((rd_T59 l0_1 x24_2).f2), .int .i64 ((rd_T59 l0_1 x24_2).f3), .int .i64 ((rd_T59 l0_1 x24_2).f4), .int .i64 ((rd_T59 l0_1 x24_2).f5)], .int .i64 (rd x7_2 x8_1)] (by rfl) rfl rfl gZ ?_
            with_reducible refine (impl_Pipe_other.calls ((rd_T59 l0_1 x24_2).f0) ((rd_T59 l0_1 x24_2).f1) ((rd_T59 l0_1 x24_2).f2) ((rd_T59 l0_1 x24_2).f3) ((rd_T59 l0_1 x24_2).f4) ((rd_T59 l0_1 x24_2).f5) (rd x7_2 x8_1) t287 false _ A15.out).mono ?_
            rintro e w50 ⟨rfl, hb⟩
            have HS6_ := (hb.cell (World.block_lt_of_cell? _ _ (hHeld.2.2.2.2.2.2))).trans (hHeld.2.2.2.2.2.2)
            refine ⟨_, rfl, ?_⟩
            have n0_ := Aside0.mk (Kd.R_below (Kd.rZ HO_7.out) hb)
            have n1_ := Aside0.mk (blk_below (g := gb279) (o := .cells #[.slice A0_0 l0_0.length c0_0, .slice (some ad284) l0_1.length c0_1] 31 (0, 0)) (kZ BK279.out) hb)
            have n2_ := Aside0.mk (blk_below (g := gb285) (o := .cells #[.string ((rd_T59 l0_1 x24_2).f0), .int .i64 ((rd_T59 l0_1 x24_2).f1), .int .i64 ((rd_T59 l0_1 x24_2).f2), .int .i64 ((rd_T59 l0_1 x24_2).f3), .int .i64 ((rd_T59 l0_1 x24_2).f4), .int .i64 ((rd_T59 l0_1 x24_2).f5)] 59 (0, 0)) (kZ BK285.out) hb)
            have n3_ := Aside0.mk (below_step bZ hb)
            clear HO_7; clear BK279; clear BK285; clear HB
            have HO_7 := n0_
            have BK279 := n1_
            have BK285 := n2_
            have HB := n3_
            clear n0_ n1_ n2_ n3_
            (try clear hb)
            (try clear hb2)
            (try clear hk)
            (try clear hi)
            refine hK.out _ _ ⟨(blk_cell BK285.out 0).trans rfl, (blk_cell BK285.out 1).trans rfl, (blk_cell BK285.out 2).trans rfl, (blk_cell BK285.out 3).trans rfl, (blk_cell BK285.out 4).trans rfl, (blk_cell BK285.out 5).trans rfl, HS6_⟩ (fun hHeld => ?_)
            clear hK K
            refine norm_ (a' := ?_) ?_ ?_
            rotate_left
            ·show Act.put _ (some 35) _ = _
             simp only [Act.put, List.setIfInBounds_toArray, List.set_cons_zero, List.set_cons_succ, i64_w, i32_w]
             rfl
            refine puZ 6 (some 29) #[true, true, true, true, true, true, true, false, false, false, false] rfl rfl HT_.out ?_
            refine puZ 7 (some 36) #[true, true, true, true, true, true, true, true, false, false, false] rfl rfl HT_.out ?_
            refine puZ 8 (some 37) #[true, true, true, true, true, true, true, true, true, false, false] rfl rfl HT_.out ?_
            refine puZ 9 (some 11) #[true, true, true, true, true, true, true, true, true, true, false] rfl rfl HT_.out ?_
            refine puZ 10 (some 12) #[true, true, true, true, true, true, true, true, true, true, true] rfl rfl HT_.out ?_
            refine done_ (done_of HT_.out (by kernel_rfl)) ?_
            try go_wp2
            go_roundg k2
            case measure => have := HK1.out; have := HK2.out; omega
            case rel => exact ⟨(x7_2), (wrap64 (x24_2 + 1)), sZ, H', ⟨by have := HK1.out; have := HK2.out; omega⟩, ⟨Kd.rZ HO_7.out⟩, ⟨kZ BK279.out⟩, ⟨bZ⟩⟩
          ·rw [if_neg c14] at H
           exact absurd H (by simp)
         ·rw [if_neg c13] at H
          exact absurd H (by simp)
        ·rw [if_neg c12] at H
         exact absurd H (by simp)
       ·rw [if_neg c11] at H
        exact absurd H (by simp)
      ·rw [if_neg c10] at H
       have c10b0 : decide (x24_2 < (l0_1.length : Int)) = false := decide_eq_false c10
       clear c10
       have H' := Aside0.mk H
       clear H
       go_wp2
       go_roundg k2
       case measure => have := HK1.out; have := HK2.out; omega
       case rel => exact ⟨(x7_2), (wrap64 (x8_1 + 1)), sZ, H', ⟨by have := HK1.out; have := HK2.out; omega⟩, ⟨Kd.rZ HO_7.out⟩, ⟨kZ BK279.out⟩, ⟨bZ⟩⟩
   ·rw [if_neg c7] at H
    have c7b0 : decide (x8_1 < (x7_1.length : Int)) = false := decide_eq_false c7
    clear c7
    replace H := Option.bind_eq_some_iff.mp H
    obtain ⟨t283, A510, H⟩ := H
    replace H : (some t283) = some r := H
    have A51 := Aside0.mk A510
    clear A510
    obtain rfl := Option.some.inj H
    obtain ⟨Ao52, co52, eo52⟩ := Kd.R_slice HO_7.out
    subst eo52
    go_wp2_with (first | ((with_reducible refine gate_callee (f := 69) rfl ?_); refine goesL_ (some 57) rfl rfl Try.func69 (by kernel_rfl) rfl #[.slice Ao52 x7_1.length co52] rfl gZ ?_; (with_reducible refine (slices_Sort_int64S.calls (fun k_ => some k_ = (.slice Ao52 x7_1.length co52 : Value).ownBlock) (.slice Ao52 x7_1.length co52) x7_1 t283 w _ ?side1 ?side2 A51.out).mono ?_); (case side1 => repeat (first | (with_reducible first | exact HB.out | apply below_alloc | apply pw_below_drewN | apply below_drew1 | refine below_set ?_ GE279.out) | exact HB.out)); (case side2 => exact Kd.R_tight rfl HO_7.out); rintro e w53 ⟨rfl, hy0, hb, hkp⟩; refine ⟨_, rfl, ?_⟩; have n0_ := Aside0.mk (Kd.R_reok rfl hy0 (fun k_ e_ => HO_7.out.1 k_ e_)); have n1_ := Aside0.mk (blk_kept (kZ BK279.out) hkp (fun hs_ => (fun e_ => (Kd.R_ne HO_7.out BK279.out (by decide)) e_) hs_)); have n2_ := Aside0.mk (hb); clear HO_7; clear BK279; clear HB; have HO_7 := n0_; have BK279 := n1_; have HB := n2_; clear n0_ n1_ n2_; (try clear hb); (try clear hkp); (try clear hy0)))
    go_ret
    exact ⟨_, eZ, Kd.rZ HO_7.out, bZ⟩
end Go.Proofs.Ythnhchpgpnaamaa.XG
end

section
namespace Go.Proofs.Ythnhchpgpnaamaa.XG
open Go.RowKit Go.Proofs.YthnhchpgpnaamaaW.PrintWords Go.Proofs.YthnhchpgpnaamaaW.PrintLast Go.Proofs.YthnhchpgpnaamaaW.PrintMore
attribute [local go_sem] run_eql_slice_nil binOp_string_gtr' binOp_string_leq' binOp_string_geq' max2_int min2_int max_two min_two max_three min_three max_four min_four   -- for this text's walks alone
set_option linter.unusedVariables false
set_option linter.unusedSimpArgs false
def impl_Network_isTree.f (k : Nat) (l0_0 : List Int) (l0_1 : List (S59)) : Option (Bool) := if (l0_1.length : Int) = (wrap64 ((l0_0.length : Int) - 1)) then ((impl_Network_reached.f k l0_0 l0_1 0 ([] : List Int)).bind fun t295 => (some ((t295.length : Int) == (l0_0.length : Int)))) else (some false)
def impl_Network_isTree.T1 : Bool × List (List Nat × List Nat) := (true, [([], []), ([0], [0]), ([1], [1]), ([], []), ([3], [3]), ([4], [4]), ([5], [5]), ([2, 6], [2, 6]), ([7], [7]), ([8], [8]), ([9, 8, 8], [8, 9]), ([10, 8], [8, 10]), ([8], [8]), ([12, 8], [8, 12]), ([13, 8], [8, 13]), ([11, 14, 8], [8, 11, 14]), ([8, 15], [8, 15]), ([16, 10, 0, 1, 2, 3, 4, 5, 6, 7, 8, 9, 10, 11, 12, 13, 14, 15, 16], [16])])
def impl_Network_isTree.B1 : List Nat := [0, 1, 3, 0, 8, 24, 56, 127, 255, 511, 1023, 2047, 511, 4607, 12799, 32767, 65535, 131071]
theorem impl_Network_isTree.tab1 : rtab .any (opsOf Try.f61 1) = impl_Network_isTree.T1 := by kernel_rfl
theorem impl_Network_isTree.bits1 : waitsOk impl_Network_isTree.T1.2 impl_Network_isTree.B1 = true := by kernel_rfl
set_option maxHeartbeats 8000000 in
set_option maxRecDepth 100000 in
theorem impl_Network_isTree.calls (k : Nat) (A0_0 : Option Addr) (c0_0 : Nat) (l0_0 : List Int) (A0_1 : Option Addr) (c0_1 : Nat) (l0_1 : List (S59)) (r : Bool) (w : World) (hr0_0 : Kd.C (Kd.int .i64) w A0_0 l0_0.length l0_0) (hc0_0 : l0_0.length ≤ c0_0) (hr0_1 : Kd.C k59 w A0_1 l0_1.length l0_1) (hc0_1 : l0_1.length ≤ c0_1) (h : impl_Network_isTree.f k l0_0 l0_1 = some r) :
  Calls Try.prog 61 #[.agg #[.slice A0_0 l0_0.length c0_0, .slice A0_1 l0_1.length c0_1]] w fun e w' => e = .returned (.bool r) ∧ Below w.heap.size w w' := by
 have hu31 := Try.underlying31
 have HR0_0 := Aside0.mk hr0_0
 have HC0_0 := Aside0.mk hc0_0
 clear hr0_0 hc0_0
 have HR0_1 := Aside0.mk hr0_1
 have HC0_1 := Aside0.mk hc0_1
 clear hr0_1 hc0_1
 have HB := Aside0.mk (Below.refl w.heap.size w)
 have H : (if (l0_1.length : Int) = (wrap64 ((l0_0.length : Int) - 1)) then ((impl_Network_reached.f k l0_0 l0_1 0 ([] : List Int)).bind fun t295 => (some ((t295.length : Int) == (l0_0.length : Int)))) else (some false)) = some r := h
 clear h
 by_cases c2 : (l0_1.length : Int) = (wrap64 ((l0_0.length : Int) - 1))
 ·rw [if_pos c2] at H
  have c2b0 : ((l0_1.length : Int) == (wrap64 ((l0_0.length : Int) - 1))) = true := beq_iff_eq.mpr c2
  have c2b1 : ((l0_1.length : Int) != (wrap64 ((l0_0.length : Int) - 1))) = false := bne_eq_false_iff_eq.mpr c2
  clear c2
  replace H := Option.bind_eq_some_iff.mp H
  obtain ⟨t295, A30, H⟩ := H
  replace H : (some ((t295.length : Int) == (l0_0.length : Int))) = some r := H
  have A3 := Aside0.mk A30
  clear A30
  obtain rfl := Option.some.inj H
  go_enter Try.func61, Try.ntmps61
  try go_wp2_with (first | ((with_reducible refine gate_dst (N := 1) rfl ?_); (try (refine gate_guard (by rfl) ?_; dsimp only)); refine boxZ 1 #[.slice A0_0 l0_0.length c0_0, .slice A0_1 l0_1.length c0_1] 31 rfl rfl ?_; intro gb294 hg w4 hbox hb; have n0_ := Aside0.mk (below_step bZ hb); have n1_ := Aside0.mk (hbox); have n2_ := Aside0.mk ((by rw [hg]; exact bsZ : w.heap.size ≤ gb294)); have n3_ := Aside0.mk ((by rw [hg]; exact bsZ : w.heap.size ≤ gb294)); clear HB; have HB := n0_; have BK294 := n1_; have GW294 := n2_; have GE294 := n3_; clear n0_ n1_ n2_ n3_; clear hb hbox hg))
  have n0_ := Aside0.mk (blk_drew BK294.out)
  have n1_ := Aside0.mk (below_drew1 HB.out)
  clear BK294; clear HB
  have BK294 := n0_
  have HB := n1_
  clear n0_ n1_
  refine start_ (n := 18) (S := fun w' => w'.cell? ⟨gb294, 0, none⟩ = some (.slice A0_0 l0_0.length c0_0) ∧ w'.cell? ⟨gb294, 1, none⟩ = some (.slice A0_1 l0_1.length c0_1)) (ds := []) #[false, false, false, false, false, false, false, false, false, false, false, false, false, false, false, false, false, false] (by kernel_rfl) rfl rfl ⟨(blk_cell BK294.out 0).trans rfl, (blk_cell BK294.out 1).trans rfl⟩ (fun hHeld => ?_); refine with_tabW impl_Network_isTree.tab1 impl_Network_isTree.bits1 (fun HT_ HW_ => ?_)
  generalize w4.drew = w5 at BK294 HB hHeld ⊢
  refine puZ 0 (some 3) #[true, false, false, false, false, false, false, false, false, false, false, false, false, false, false, false, false, false] rfl rfl HT_.out ?_
  refine puZ 3 (some 6) #[true, false, false, true, false, false, false, false, false, false, false, false, false, false, false, false, false, false] rfl rfl HT_.out ?_
  refine take_ (i := 1) (N := some 4) (v := ?_) (a' := ?_) #[true, true, false, true, false, false, false, false, false, false, false, false, false, false, false, false, false, false] rfl rfl (take_ofW HT_.out HW_.out (by kernel_rfl)) (fun _ _ _ h => h) (Or.inl ⟨by rfl, ?_⟩) hHeld ?_ ?_
  rotate_left
  ·rintro w' ⟨s0, s1⟩
   go_simp
   with_reducible rfl
  rotate_left
  ·simp only [Act.put, List.setIfInBounds_toArray, List.set_cons_zero, List.set_cons_succ, i64_w, i32_w]
   rfl
  refine puZ 2 (some 5) #[true, true, true, true, false, false, false, false, false, false, false, false, false, false, false, false, false, false] rfl rfl HT_.out ?_
  refine take_ (i := 4) (N := some 7) (v := ?_) (a' := ?_) #[true, true, true, true, true, false, false, false, false, false, false, false, false, false, false, false, false, false] rfl rfl (take_ofW HT_.out HW_.out (by kernel_rfl)) (fun _ _ _ h => h) (Or.inl ⟨by rfl, ?_⟩) hHeld ?_ ?_
  rotate_left
  ·rintro w' ⟨s0, s1⟩
   go_simp
   with_reducible rfl
  rotate_left
  ·simp only [Act.put, List.setIfInBounds_toArray, List.set_cons_zero, List.set_cons_succ, i64_w, i32_w]
   rfl
  refine puZ 5 (some 8) #[true, true, true, true, true, true, false, false, false, false, false, false, false, false, false, false, false, false] rfl rfl HT_.out ?_
  refine puZ 6 (some 9) #[true, true, true, true, true, true, true, false, false, false, false, false, false, false, false, false, false, false] rfl rfl HT_.out ?_
  refine puZ 7 (some 10) #[true, true, true, true, true, true, true, true, false, false, false, false, false, false, false, false, false, false] rfl rfl HT_.out ?_
  refine puZ 8 (some 11) #[true, true, true, true, true, true, true, true, true, false, false, false, false, false, false, false, false, false] rfl rfl HT_.out ?_
  refine puZ 12 (some 15) #[true, true, true, true, true, true, true, true, true, false, false, false, true, false, false, false, false, false] rfl rfl HT_.out ?_
  refine take_ (i := 9) (N := some 12) (v := ?_) (a' := ?_) #[true, true, true, true, true, true, true, true, true, true, false, false, true, false, false, false, false, false] rfl rfl (take_ofW HT_.out HW_.out (by kernel_rfl)) (fun _ _ _ h => h) (Or.inl ⟨by rfl, ?_⟩) hHeld ?_ ?_
  rotate_left
  ·rintro w' ⟨s0, s1⟩
   go_simp
   with_reducible rfl
  rotate_left
  ·simp only [Act.put, List.setIfInBounds_toArray, List.set_cons_zero, List.set_cons_succ, i64_w, i32_w]
   rfl
  refine take_ (i := 13) (N := some 16) (v := ?_) (a' := ?_) #[true, true, true, true, true, true, true, true, true, true, false, false, true, true, false, false, false, false] rfl rfl (take_ofW HT_.out HW_.out (by kernel_rfl)) (fun _ _ _ h => h) (Or.inl ⟨by rfl, ?_⟩) hHeld ?_ ?_
  rotate_left
  ·rintro w' ⟨s0, s1⟩
   go_simp
   with_reducible rfl
  rotate_left
  ·simp only [Act.put, List.setIfInBounds_toArray, List.set_cons_zero, List.set_cons_succ, i64_w, i32_w]
   rfl
  refine puZ 14 (some 17) #[true, true, true, true, true, true, true, true, true, true, false, false, true, true, true, false, false, false] rfl rfl HT_.out ?_
  refine one_ (i := 10) (N := some 13) #[true, true, true, true, true, true, true, true, true, true, true, false, true, true, true, false, false, false] rfl rfl (one_of HT_.out (by kernel_rfl)) (by decide) (fun K hK => ?_)
  refine goes_ Try.func67 (by kernel_rfl) rfl #[.agg #[.slice A0_0 l0_0.length c0_0, .slice A0_1 l0_1.length c0_1], .int .i64 0, .slice none 0 0] (by rfl) rfl rfl gZ ?_
  refine (impl_Network_reached.calls k _ _ l0_0 _ _ l0_1 0 _ _ ([] : List Int) t295 _ ?side1 ?side2 ?side3 ?side4 ?side5 ?side6 A3.out).mono ?_
  (case side1 => repeat (first | exact (Kd.C_below HR0_0.out HB.out) | (with_reducible refine Kd.C_alloc ?_ _) | (with_reducible refine Kd.C_drewN ?_ _) | (with_reducible refine Kd.C_drew ?_)))
  (case side2 => exact HC0_0.out)
  (case side3 => repeat (first | exact (Kd.C_below HR0_1.out HB.out) | (with_reducible refine Kd.C_alloc ?_ _) | (with_reducible refine Kd.C_drewN ?_ _) | (with_reducible refine Kd.C_drew ?_)))
  (case side4 => exact HC0_1.out)
  (case side5 => exact Kd.C_nil _ _)
  (case side6 => exact Nat.le_refl _)
  rintro e w6 ⟨v296, rfl, ho0, hb⟩
  refine ⟨_, rfl, ?_⟩
  have n0_ := Aside0.mk (Kd.R_lower ho0 bsZ)
  have n1_ := Aside0.mk (blk_below (g := gb294) (o := .cells #[.slice A0_0 l0_0.length c0_0, .slice A0_1 l0_1.length c0_1] 31 (0, 0)) (kZ BK294.out) hb)
  have n2_ := Aside0.mk (below_step bZ hb)
  clear BK294; clear HB
  have HO297 := n0_
  have BK294 := n1_
  have HB := n2_
  clear n0_ n1_ n2_
  (try clear hb)
  (try clear hb2)
  (try clear hk)
  (try clear hi)
  (try clear ho0)
  obtain ⟨Ao7, co7, eo7⟩ := Kd.R_slice HO297.out
  (first | subst eo7 | (injection eo7 with f1_ f2_ f3_; have f4_ := f1_.symm; have f5_ := f3_.symm; clear f1_ f2_ f3_; subst f4_; subst f5_))
  refine hK.out _ _ ⟨(blk_cell BK294.out 0).trans rfl, (blk_cell BK294.out 1).trans rfl⟩ (fun hHeld => ?_)
  clear hK K
  refine norm_ (a' := ?_) ?_ ?_
  rotate_left
  ·show Act.put _ (some 13) _ = _
   simp only [Act.put, List.setIfInBounds_toArray, List.set_cons_zero, List.set_cons_succ, i64_w, i32_w]
   rfl
  refine puZ 11 (some 14) #[true, true, true, true, true, true, true, true, true, true, true, true, true, true, true, false, false, false] rfl rfl HT_.out ?_
  refine puZ 15 (some 18) #[true, true, true, true, true, true, true, true, true, true, true, true, true, true, true, true, false, false] rfl rfl HT_.out ?_
  refine puZ 16 (some 19) #[true, true, true, true, true, true, true, true, true, true, true, true, true, true, true, true, true, false] rfl rfl HT_.out ?_
  refine puZ 17 (some 2) #[true, true, true, true, true, true, true, true, true, true, true, true, true, true, true, true, true, true] rfl rfl HT_.out ?_
  refine done_ (done_of HT_.out (by kernel_rfl)) ?_
  try go_wp2
  go_ret
  exact ⟨eZ, bZ⟩
 ·rw [if_neg c2] at H
  have c2b0 : ((l0_1.length : Int) == (wrap64 ((l0_0.length : Int) - 1))) = false := beq_eq_false_iff_ne.mpr c2
  have c2b1 : ((l0_1.length : Int) != (wrap64 ((l0_0.length : Int) - 1))) = true := bne_iff_ne.mpr c2
  obtain rfl := Option.some.inj H
  go_enter Try.func61, Try.ntmps61
  try go_wp2_with (first | ((with_reducible refine gate_dst (N := 1) rfl ?_); (try (refine gate_guard (by rfl) ?_; dsimp only)); refine boxZ 1 #[.slice A0_0 l0_0.length c0_0, .slice A0_1 l0_1.length c0_1] 31 rfl rfl ?_; intro gb294 hg w8 hbox hb; have n0_ := Aside0.mk (below_step bZ hb); have n1_ := Aside0.mk (hbox); have n2_ := Aside0.mk ((by rw [hg]; exact bsZ : w.heap.size ≤ gb294)); have n3_ := Aside0.mk ((by rw [hg]; exact bsZ : w.heap.size ≤ gb294)); clear HB; have HB := n0_; have BK294 := n1_; have GW294 := n2_; have GE294 := n3_; clear n0_ n1_ n2_ n3_; clear hb hbox hg))
  have n0_ := Aside0.mk (blk_drew BK294.out)
  have n1_ := Aside0.mk (below_drew1 HB.out)
  clear BK294; clear HB
  have BK294 := n0_
  have HB := n1_
  clear n0_ n1_
  refine start_ (n := 18) (S := fun w' => w'.cell? ⟨gb294, 0, none⟩ = some (.slice A0_0 l0_0.length c0_0) ∧ w'.cell? ⟨gb294, 1, none⟩ = some (.slice A0_1 l0_1.length c0_1)) (ds := []) #[false, false, false, false, false, false, false, false, false, false, false, false, false, false, false, false, false, false] (by kernel_rfl) rfl rfl ⟨(blk_cell BK294.out 0).trans rfl, (blk_cell BK294.out 1).trans rfl⟩ (fun hHeld => ?_); refine with_tabW impl_Network_isTree.tab1 impl_Network_isTree.bits1 (fun HT_ HW_ => ?_)
  generalize w8.drew = w9 at BK294 HB hHeld ⊢
  refine puZ 0 (some 3) #[true, false, false, false, false, false, false, false, false, false, false, false, false, false, false, false, false, false] rfl rfl HT_.out ?_
  refine puZ 3 (some 6) #[true, false, false, true, false, false, false, false, false, false, false, false, false, false, false, false, false, false] rfl rfl HT_.out ?_
  refine take_ (i := 1) (N := some 4) (v := ?_) (a' := ?_) #[true, true, false, true, false, false, false, false, false, false, false, false, false, false, false, false, false, false] rfl rfl (take_ofW HT_.out HW_.out (by kernel_rfl)) (fun _ _ _ h => h) (Or.inl ⟨by rfl, ?_⟩) hHeld ?_ ?_
  rotate_left
  ·rintro w' ⟨s0, s1⟩
   go_simp
   with_reducible rfl
  rotate_left
  ·simp only [Act.put, List.setIfInBounds_toArray, List.set_cons_zero, List.set_cons_succ, i64_w, i32_w]
   rfl
  refine puZ 2 (some 5) #[true, true, true, true, false, false, false, false, false, false, false, false, false, false, false, false, false, false] rfl rfl HT_.out ?_
  refine take_ (i := 4) (N := some 7) (v := ?_) (a' := ?_) #[true, true, true, true, true, false, false, false, false, false, false, false, false, false, false, false, false, false] rfl rfl (take_ofW HT_.out HW_.out (by kernel_rfl)) (fun _ _ _ h => h) (Or.inl ⟨by rfl, ?_⟩) hHeld ?_ ?_
  rotate_left
  ·rintro w' ⟨s0, s1⟩
   go_simp
   with_reducible rfl
  rotate_left
  ·simp only [Act.put, List.setIfInBounds_toArray, List.set_cons_zero, List.set_cons_succ, i64_w, i32_w]
   rfl
  refine puZ 5 (some 8) #[true, true, true, true, true, true, false, false, false, false, false, false, false, false, false, false, false, false] rfl rfl HT_.out ?_
  refine puZ 6 (some 9) #[true, true, true, true, true, true, true, false, false, false, false, false, false, false, false, false, false, false] rfl rfl HT_.out ?_
  refine puZ 7 (some 10) #[true, true, true, true, true, true, true, true, false, false, false, false, false, false, false, false, false, false] rfl rfl HT_.out ?_
  refine puZ 8 (some 11) #[true, true, true, true, true, true, true, true, true, false, false, false, false, false, false, false, false, false] rfl rfl HT_.out ?_
  refine pure_ (i := 9) (N := some 12) (v := undef) (a' := ?_) #[true, true, true, true, true, true, true, true, true, true, false, false, false, false, false, false, false, false] rfl rfl (any_of HT_.out (by kernel_rfl)) (fun _ _ _ h => h) (Or.inr ⟨by rfl, rfl⟩) ?_ ?_
  rotate_left
  ·simp only [Act.put, List.setIfInBounds_toArray, List.set_cons_zero, List.set_cons_succ, i64_w, i32_w]
   rfl
  refine pure_ (i := 10) (N := some 13) (v := undef) (a' := ?_) #[true, true, true, true, true, true, true, true, true, true, true, false, false, false, false, false, false, false] rfl rfl (any_of HT_.out (by kernel_rfl)) (fun _ _ _ h => h) (Or.inr ⟨by rfl, rfl⟩) ?_ ?_
  rotate_left
  ·simp only [Act.put, List.setIfInBounds_toArray, List.set_cons_zero, List.set_cons_succ, i64_w, i32_w]
   rfl
  refine pure_ (i := 11) (N := some 14) (v := undef) (a' := ?_) #[true, true, true, true, true, true, true, true, true, true, true, true, false, false, false, false, false, false] rfl rfl (any_of HT_.out (by kernel_rfl)) (fun _ _ _ h => h) (Or.inr ⟨by rfl, rfl⟩) ?_ ?_
  rotate_left
  ·simp only [Act.put, List.setIfInBounds_toArray, List.set_cons_zero, List.set_cons_succ, i64_w, i32_w]
   rfl
  refine pure_ (i := 12) (N := some 15) (v := undef) (a' := ?_) #[true, true, true, true, true, true, true, true, true, true, true, true, true, false, false, false, false, false] rfl rfl (any_of HT_.out (by kernel_rfl)) (fun _ _ _ h => h) (Or.inr ⟨by rfl, rfl⟩) ?_ ?_
  rotate_left
  ·simp only [Act.put, List.setIfInBounds_toArray, List.set_cons_zero, List.set_cons_succ, i64_w, i32_w]
   rfl
  refine pure_ (i := 13) (N := some 16) (v := undef) (a' := ?_) #[true, true, true, true, true, true, true, true, true, true, true, true, true, true, false, false, false, false] rfl rfl (any_of HT_.out (by kernel_rfl)) (fun _ _ _ h => h) (Or.inr ⟨by rfl, rfl⟩) ?_ ?_
  rotate_left
  ·simp only [Act.put, List.setIfInBounds_toArray, List.set_cons_zero, List.set_cons_succ, i64_w, i32_w]
   rfl
  refine pure_ (i := 14) (N := some 17) (v := undef) (a' := ?_) #[true, true, true, true, true, true, true, true, true, true, true, true, true, true, true, false, false, false] rfl rfl (any_of HT_.out (by kernel_rfl)) (fun _ _ _ h => h) (Or.inr ⟨by rfl, rfl⟩) ?_ ?_
  rotate_left
  ·simp only [Act.put, List.setIfInBounds_toArray, List.set_cons_zero, List.set_cons_succ, i64_w, i32_w]
   rfl
  refine pure_ (i := 15) (N := some 18) (v := undef) (a' := ?_) #[true, true, true, true, true, true, true, true, true, true, true, true, true, true, true, true, false, false] rfl rfl (any_of HT_.out (by kernel_rfl)) (fun _ _ _ h => h) (Or.inr ⟨by rfl, rfl⟩) ?_ ?_
  rotate_left
  ·simp only [Act.put, List.setIfInBounds_toArray, List.set_cons_zero, List.set_cons_succ, i64_w, i32_w]
   rfl
  refine puZ 16 (some 19) #[true, true, true, true, true, true, true, true, true, true, true, true, true, true, true, true, true, false] rfl rfl HT_.out ?_
  refine puZ 17 (some 2) #[true, true, true, true, true, true, true, true, true, true, true, true, true, true, true, true, true, true] rfl rfl HT_.out ?_
  refine done_ (done_of HT_.out (by kernel_rfl)) ?_
  try go_wp2
  go_ret
  exact ⟨eZ, bZ⟩
end Go.Proofs.Ythnhchpgpnaamaa.XG
end

section
namespace Go.Proofs.Ythnhchpgpnaamaa.XG
open Go.RowKit Go.Proofs.YthnhchpgpnaamaaW.PrintWords Go.Proofs.YthnhchpgpnaamaaW.PrintLast Go.Proofs.YthnhchpgpnaamaaW.PrintMore
attribute [local go_sem] run_eql_slice_nil binOp_string_gtr' binOp_string_leq' binOp_string_geq' max2_int min2_int max_two min_two max_three min_three max_four min_four   -- for this text's walks alone
set_option linter.unusedVariables false
set_option linter.unusedSimpArgs false
mutual
def impl_treeCode.j0 : Nat → List Int → List Int → Bool → Bool → List Int → List (S59) → Option (Int)
 | 0, _, _, _, _, _, _ => none
 | k + 1, x3, x4, x5, x17, x299000, x299001 => if x17 = true then (some 2) else (if x5 = true then (if (x3.length : Int) = (x299000.length : Int) then ((impl_allWithin.f x3 0 100000).bind fun t302 => (impl_treeCode.j1 k x4 x5 (!t302) x299000 x299001)) else (impl_treeCode.j1 k x4 x5 true x299000 x299001)) else (impl_treeCode.j1 k x4 x5 false x299000 x299001))
def impl_treeCode.j1 : Nat → List Int → Bool → Bool → List Int → List (S59) → Option (Int)
 | 0, _, _, _, _, _ => none
 | k + 1, x4, x5, x27, x299000, x299001 => if x27 = true then (some 7) else (if x5 = true then (impl_treeCode.j2 k false x299000 x299001) else ((impl_Network_flowsOk.f x299000 x299001 x4).bind fun t303 => (impl_treeCode.j2 k (!t303) x299000 x299001)))
def impl_treeCode.j2 : Nat → Bool → List Int → List (S59) → Option (Int)
 | 0, _, _, _ => none
 | k + 1, x42, x299000, x299001 => if x42 = true then (some 7) else ((impl_Network_isTree.f k x299000 x299001).bind fun t304 => (if t304 = true then (some 0) else (some 6)))
end
def impl_treeCode.f (k : Nat) (l0_0 : List Int) (l0_1 : List (S59)) (a1 : Int) (a2 : Int) (l3 : List Int) (l4 : List Int) (a5 : Bool) : Option (Int) := (impl_ValidNetwork.f k l0_0 l0_1).bind fun t299 => (if t299 = true then ((impl_Network_hasNode.f l0_0 l0_1 a1).bind fun t300 => (if t300 = true then ((impl_pressureOk.f a2).bind fun t301 => (impl_treeCode.j0 k l3 l4 a5 (!t301) l0_0 l0_1)) else (impl_treeCode.j0 k l3 l4 a5 true l0_0 l0_1))) else (some 1))
set_option maxHeartbeats 8000000 in
set_option maxRecDepth 100000 in
theorem impl_treeCode.calls (k : Nat) (A0_0 : Option Addr) (c0_0 : Nat) (l0_0 : List Int) (A0_1 : Option Addr) (c0_1 : Nat) (l0_1 : List (S59)) (a1 : Int) (a2 : Int) (A3 : Option Addr) (c3 : Nat) (l3 : List Int) (A4 : Option Addr) (c4 : Nat) (l4 : List Int) (a5 : Bool) (r : Int) (w : World) (hr0_0 : Kd.C (Kd.int .i64) w A0_0 l0_0.length l0_0) (hc0_0 : l0_0.length ≤ c0_0) (hr0_1 : Kd.C k59 w A0_1 l0_1.length l0_1) (hc0_1 : l0_1.length ≤ c0_1) (hr3 : Kd.C (Kd.int .i64) w A3 l3.length l3) (hc3 : l3.length ≤ c3) (hr4 : Kd.C (Kd.int .i64) w A4 l4.length l4) (hc4 : l4.length ≤ c4) (h : impl_treeCode.f k l0_0 l0_1 a1 a2 l3 l4 a5 = some r) :
  Calls Try.prog 43 #[.agg #[.slice A0_0 l0_0.length c0_0, .slice A0_1 l0_1.length c0_1], .int .i64 a1, .int .i64 a2, .slice A3 l3.length c3, .slice A4 l4.length c4, .bool a5] w fun e w' => e = .returned (.int .i64 r) ∧ Below w.heap.size w w' := by
 have hu31 := Try.underlying31
 have HR0_0 := Aside0.mk hr0_0
 have HC0_0 := Aside0.mk hc0_0
 clear hr0_0 hc0_0
 have HR0_1 := Aside0.mk hr0_1
 have HC0_1 := Aside0.mk hc0_1
 clear hr0_1 hc0_1
 have HR3 := Aside0.mk hr3
 have HC3 := Aside0.mk hc3
 clear hr3 hc3
 have HR4 := Aside0.mk hr4
 have HC4 := Aside0.mk hc4
 clear hr4 hc4
 have HB := Aside0.mk (Below.refl w.heap.size w)
 have H : ((impl_ValidNetwork.f k l0_0 l0_1).bind fun t299 => (if t299 = true then ((impl_Network_hasNode.f l0_0 l0_1 a1).bind fun t300 => (if t300 = true then ((impl_pressureOk.f a2).bind fun t301 => (impl_treeCode.j0 k l3 l4 a5 (!t301) l0_0 l0_1)) else (impl_treeCode.j0 k l3 l4 a5 true l0_0 l0_1))) else (some 1))) = some r := h
 clear h
 replace H := Option.bind_eq_some_iff.mp H
 obtain ⟨t299, A70, H⟩ := H
 replace H : (if t299 = true then ((impl_Network_hasNode.f l0_0 l0_1 a1).bind fun t300 => (if t300 = true then ((impl_pressureOk.f a2).bind fun t301 => (impl_treeCode.j0 k l3 l4 a5 (!t301) l0_0 l0_1)) else (impl_treeCode.j0 k l3 l4 a5 true l0_0 l0_1))) else (some 1)) = some r := H
 have A7 := Aside0.mk A70
 clear A70
 by_cases c8 : t299 = true
 ·subst c8
  have H1 : ((impl_Network_hasNode.f l0_0 l0_1 a1).bind fun t300 => (if t300 = true then ((impl_pressureOk.f a2).bind fun t301 => (impl_treeCode.j0 k l3 l4 a5 (!t301) l0_0 l0_1)) else (impl_treeCode.j0 k l3 l4 a5 true l0_0 l0_1))) = some r := by rw [if_pos rfl] at H; exact H
  clear H
  have H := H1
  clear H1
  have HC9 := Aside0.mk H
  clear H
  go_enter Try.func43, Try.ntmps43
  go_upto_region 3 with (first | ((with_reducible refine gate_dst (N := 6) rfl ?_); (try (refine gate_guard (by rfl) ?_; dsimp only)); refine boxZ 6 #[.slice A0_0 l0_0.length c0_0, .slice A0_1 l0_1.length c0_1] 31 rfl rfl ?_; intro gb298 hg w10 hbox hb; have n0_ := Aside0.mk (below_step bZ hb); have n1_ := Aside0.mk (hbox); have n2_ := Aside0.mk ((by rw [hg]; exact bsZ : w.heap.size ≤ gb298)); have n3_ := Aside0.mk ((by rw [hg]; exact bsZ : w.heap.size ≤ gb298)); clear HB; have HB := n0_; have BK298 := n1_; have GW298 := n2_; have GE298 := n3_; clear n0_ n1_ n2_ n3_; clear hb hbox hg; have hcz11_0 := bc0 BK298.out; have hcz11_1 := bc1 BK298.out; have hfz11_0 := blk_frozen BK298.out 0; have hfz11_1 := blk_frozen BK298.out 1) | ((with_reducible refine gate_callee (f := 22) rfl ?_); refine goesL_ (some 15) rfl rfl Try.func22 (by kernel_rfl) rfl #[.agg #[.slice A0_0 l0_0.length c0_0, .slice A0_1 l0_1.length c0_1]] rfl gZ ?_; (with_reducible refine (impl_ValidNetwork.calls k _ _ l0_0 _ _ l0_1 true _ ?side1 ?side2 ?side3 ?side4 A7.out).mono ?_); (case side1 => repeat (first | exact (Kd.C_below HR0_0.out HB.out) | (with_reducible refine Kd.C_alloc ?_ _) | (with_reducible refine Kd.C_drewN ?_ _) | (with_reducible refine Kd.C_drew ?_))); (case side2 => exact HC0_0.out); (case side3 => repeat (first | exact (Kd.C_below HR0_1.out HB.out) | (with_reducible refine Kd.C_alloc ?_ _) | (with_reducible refine Kd.C_drewN ?_ _) | (with_reducible refine Kd.C_drew ?_))); (case side4 => exact HC0_1.out); rintro e w12 ⟨rfl, hb⟩; refine ⟨_, rfl, ?_⟩; have n0_ := Aside0.mk (blk_below (g := gb298) (o := .cells #[.slice A0_0 l0_0.length c0_0, .slice A0_1 l0_1.length c0_1] 31 (0, 0)) (kZ BK298.out) hb); have n1_ := Aside0.mk (below_step bZ hb); clear BK298; clear HB; have BK298 := n0_; have HB := n1_; clear n0_ n1_; (try clear hb); (try clear hb2); (try clear hk); (try clear hi)))
  (try simp only [Act.put, List.setIfInBounds_toArray, List.set_cons_zero, List.set_cons_succ])
  go_cut [17] (fun v17 wc => ∃ (kq : Nat) (x17_8 : Bool), v17 = .bool x17_8 ∧ Aside0 (impl_treeCode.j0 kq l3 l4 a5 x17_8 l0_0 l0_1 = some r) ∧ Aside0 (kq ≤ k) ∧ Aside0 (wc.heap[gb298]? = some (.cells #[(.slice A0_0 l0_0.length c0_0), (.slice A0_1 l0_1.length c0_1)] 31 (0, 0))) ∧ Aside0 (Below w.heap.size w wc))
  case first =>
   have H := HC9.out
   clear HC9
   replace H := Option.bind_eq_some_iff.mp H
   obtain ⟨t300, A130, H⟩ := H
   replace H : (if t300 = true then ((impl_pressureOk.f a2).bind fun t301 => (impl_treeCode.j0 k l3 l4 a5 (!t301) l0_0 l0_1)) else (impl_treeCode.j0 k l3 l4 a5 true l0_0 l0_1)) = some r := H
   have A13 := Aside0.mk A130
   clear A130
   by_cases c14 : t300 = true
   ·subst c14
    have H1 : ((impl_pressureOk.f a2).bind fun t301 => (impl_treeCode.j0 k l3 l4 a5 (!t301) l0_0 l0_1)) = some r := by rw [if_pos rfl] at H; exact H
    clear H
    have H := H1
    clear H1
    replace H := Option.bind_eq_some_iff.mp H
    obtain ⟨t301, A150, H⟩ := H
    replace H : (impl_treeCode.j0 k l3 l4 a5 (!t301) l0_0 l0_1) = some r := H
    have A15 := Aside0.mk A150
    clear A150
    have H' := Aside0.mk H
    clear H
    have hcz16_0 := bc0 BK298.out
    have hcz16_1 := bc1 BK298.out
    have hfz16_0 := blk_frozen BK298.out 0
    have hfz16_1 := blk_frozen BK298.out 1
    go_wp2_with (first | ((with_reducible refine gate_callee (f := 23) rfl ?_); refine goesL_ (some 20) rfl rfl Try.func23 (by kernel_rfl) rfl #[.agg #[.slice A0_0 l0_0.length c0_0, .slice A0_1 l0_1.length c0_1], .int .i64 a1] rfl gZ ?_; (with_reducible refine (impl_Network_hasNode.calls _ _ l0_0 _ _ l0_1 a1 true _ ?side1 ?side2 ?side3 ?side4 A13.out).mono ?_); (case side1 => repeat (first | exact (Kd.C_below HR0_0.out HB.out) | (with_reducible refine Kd.C_alloc ?_ _) | (with_reducible refine Kd.C_drewN ?_ _) | (with_reducible refine Kd.C_drew ?_))); (case side2 => exact HC0_0.out); (case side3 => repeat (first | exact (Kd.C_below HR0_1.out HB.out) | (with_reducible refine Kd.C_alloc ?_ _) | (with_reducible refine Kd.C_drewN ?_ _) | (with_reducible refine Kd.C_drew ?_))); (case side4 => exact HC0_1.out); rintro e w17 ⟨rfl, hb⟩; refine ⟨_, rfl, ?_⟩; have n0_ := Aside0.mk (blk_below (g := gb298) (o := .cells #[.slice A0_0 l0_0.length c0_0, .slice A0_1 l0_1.length c0_1] 31 (0, 0)) (kZ BK298.out) hb); have n1_ := Aside0.mk (below_step bZ hb); clear BK298; clear HB; have BK298 := n0_; have HB := n1_; clear n0_ n1_; (try clear hb); (try clear hb2); (try clear hk); (try clear hi)) | (go_at_call 59; (with_reducible refine (impl_pressureOk.calls a2 t301 _ A15.out).mono ?_); rintro e w' ⟨rfl, ⟨nd, rfl⟩⟩))
    go_meet
    case rel => exact ⟨_, (!t301), sZ, H', ⟨by first | omega | exact Nat.le_refl _⟩, ⟨kZ BK298.out⟩, ⟨bZ⟩⟩
   ·replace c14 := Bool.eq_false_iff.mpr c14
    subst c14
    have H1 : (impl_treeCode.j0 k l3 l4 a5 true l0_0 l0_1) = some r := by rw [if_neg (show ¬ (false = true) by decide)] at H; exact H
    clear H
    have H := H1
    clear H1
    have H' := Aside0.mk H
    clear H
    have hcz18_0 := bc0 BK298.out
    have hcz18_1 := bc1 BK298.out
    have hfz18_0 := blk_frozen BK298.out 0
    have hfz18_1 := blk_frozen BK298.out 1
    go_wp2_with (first | ((with_reducible refine gate_callee (f := 23) rfl ?_); refine goesL_ (some 20) rfl rfl Try.func23 (by kernel_rfl) rfl #[.agg #[.slice A0_0 l0_0.length c0_0, .slice A0_1 l0_1.length c0_1], .int .i64 a1] rfl gZ ?_; (with_reducible refine (impl_Network_hasNode.calls _ _ l0_0 _ _ l0_1 a1 false _ ?side1 ?side2 ?side3 ?side4 A13.out).mono ?_); (case side1 => repeat (first | exact (Kd.C_below HR0_0.out HB.out) | (with_reducible refine Kd.C_alloc ?_ _) | (with_reducible refine Kd.C_drewN ?_ _) | (with_reducible refine Kd.C_drew ?_))); (case side2 => exact HC0_0.out); (case side3 => repeat (first | exact (Kd.C_below HR0_1.out HB.out) | (with_reducible refine Kd.C_alloc ?_ _) | (with_reducible refine Kd.C_drewN ?_ _) | (with_reducible refine Kd.C_drew ?_))); (case side4 => exact HC0_1.out); rintro e w19 ⟨rfl, hb⟩; refine ⟨_, rfl, ?_⟩; have n0_ := Aside0.mk (blk_below (g := gb298) (o := .cells #[.slice A0_0 l0_0.length c0_0, .slice A0_1 l0_1.length c0_1] 31 (0, 0)) (kZ BK298.out) hb); have n1_ := Aside0.mk (below_step bZ hb); clear BK298; clear HB; have BK298 := n0_; have HB := n1_; clear n0_ n1_; (try clear hb); (try clear hb2); (try clear hk); (try clear hi)))
    go_meet
    case rel => exact ⟨_, (true), sZ, H', ⟨by first | omega | exact Nat.le_refl _⟩, ⟨kZ BK298.out⟩, ⟨bZ⟩⟩
  case rest =>
   clear HC9; (try clear c1); (try clear c2); (try clear p2); (try clear c3); (try clear c4); (try clear c8); (try clear c14); (try clear hcz11_0); (try clear hcz11_1); (try clear hcz16_0); (try clear hcz16_1); (try clear hcz18_0); (try clear hcz18_1); (try clear hfz11_0); (try clear hfz11_1); (try clear hfz16_0); (try clear hfz16_1); (try clear hfz18_0); (try clear hfz18_1)
   obtain ⟨kq, x17_8, rfl, HA, HJ8, BK298, HB⟩ := hcut
   cases kq with
   | zero => exact absurd HA.out (by simp [impl_treeCode.j0])
   | succ kj8 =>
    have H := HA.out
    clear HA
    simp only [impl_treeCode.j0] at H
    by_cases c20 : x17_8 = true
    ·subst c20
     have H1 : (some 2) = some r := by rw [if_pos rfl] at H; exact H
     clear H
     have H := H1
     clear H1
     obtain rfl := Option.some.inj H
     go_wp2
     go_ret
     exact ⟨eZ, bZ⟩
    ·replace c20 := Bool.eq_false_iff.mpr c20
     subst c20
     have H1 : (if a5 = true then (if (l3.length : Int) = (l0_0.length : Int) then ((impl_allWithin.f l3 0 100000).bind fun t302 => (impl_treeCode.j1 kj8 l4 a5 (!t302) l0_0 l0_1)) else (impl_treeCode.j1 kj8 l4 a5 true l0_0 l0_1)) else (impl_treeCode.j1 kj8 l4 a5 false l0_0 l0_1)) = some r := by rw [if_neg (show ¬ (false = true) by decide)] at H; exact H
     clear H
     have H := H1
     clear H1
     have HC21 := Aside0.mk H
     clear H
     go_upto_region 5 with (fail)
     go_cut [27] (fun v27 wc => ∃ (kq : Nat) (x27_20 : Bool), v27 = .bool x27_20 ∧ Aside0 (impl_treeCode.j1 kq l4 a5 x27_20 l0_0 l0_1 = some r) ∧ Aside0 (kq ≤ kj8) ∧ Aside0 (wc.heap[gb298]? = some (.cells #[(.slice A0_0 l0_0.length c0_0), (.slice A0_1 l0_1.length c0_1)] 31 (0, 0))) ∧ Aside0 (Below w.heap.size w wc))
     case first =>
      have H := HC21.out
      clear HC21
      by_cases c22 : a5 = true
      ·subst c22
       have H1 : (if (l3.length : Int) = (l0_0.length : Int) then ((impl_allWithin.f l3 0 100000).bind fun t302 => (impl_treeCode.j1 kj8 l4 true (!t302) l0_0 l0_1)) else (impl_treeCode.j1 kj8 l4 true true l0_0 l0_1)) = some r := by rw [if_pos rfl] at H; exact H
       clear H
       have H := H1
       clear H1
       by_cases c23 : (l3.length : Int) = (l0_0.length : Int)
       ·rw [if_pos c23] at H
        have c23b0 : ((l3.length : Int) == (l0_0.length : Int)) = true := beq_iff_eq.mpr c23
        have c23b1 : ((l3.length : Int) != (l0_0.length : Int)) = false := bne_eq_false_iff_eq.mpr c23
        have c23b2 : (l3.length == l0_0.length) = true := by first | simpa using c23 | (simp at c23 ⊢; omega)
        clear c23
        (first | rw [c23b0] | (simp only [i64_w, i32_w]; rw [c23b0]) | skip)
        replace H := Option.bind_eq_some_iff.mp H
        obtain ⟨t302, A240, H⟩ := H
        replace H : (impl_treeCode.j1 kj8 l4 true (!t302) l0_0 l0_1) = some r := H
        have A24 := Aside0.mk A240
        clear A240
        have H' := Aside0.mk H
        clear H
        have hcz25_0 := bc0 BK298.out
        have hcz25_1 := bc1 BK298.out
        have hfz25_0 := blk_frozen BK298.out 0
        have hfz25_1 := blk_frozen BK298.out 1
        go_wp2_with (first | (go_at_call 39; (with_reducible refine (impl_allWithin.calls _ _ l3 0 100000 t302 _ ?side1 ?side2 A24.out).mono ?_); (case side1 => repeat (first | exact (Kd.C_below HR3.out HB.out) | (with_reducible refine Kd.C_alloc ?_ _) | (with_reducible refine Kd.C_drewN ?_ _) | (with_reducible refine Kd.C_drew ?_))); (case side2 => exact HC3.out); rintro e w26 ⟨rfl, hb⟩; have n0_ := Aside0.mk (blk_below (g := gb298) (o := .cells #[.slice A0_0 l0_0.length c0_0, .slice A0_1 l0_1.length c0_1] 31 (0, 0)) (kZ BK298.out) hb); have n1_ := Aside0.mk (below_step bZ hb); clear BK298; clear HB; have BK298 := n0_; have HB := n1_; clear n0_ n1_; (try clear hb); (try clear hb2); (try clear hk); (try clear hi)))
        go_meet
        case rel => exact ⟨_, (!t302), sZ, H', ⟨by have := HJ8.out; first | omega | exact Nat.le_refl _⟩, ⟨kZ BK298.out⟩, ⟨bZ⟩⟩
       ·rw [if_neg c23] at H
        have c23b0 : ((l3.length : Int) == (l0_0.length : Int)) = false := beq_eq_false_iff_ne.mpr c23
        have c23b1 : ((l3.length : Int) != (l0_0.length : Int)) = true := bne_iff_ne.mpr c23
        have c23b2 : (l3.length == l0_0.length) = false := by first | simpa using c23 | (simp at c23 ⊢; omega)
        (first | rw [c23b0] | (simp only [i64_w, i32_w]; rw [c23b0]) | skip)
        have H' := Aside0.mk H
        clear H
        have hcz27_0 := bc0 BK298.out
        have hcz27_1 := bc1 BK298.out
        have hfz27_0 := blk_frozen BK298.out 0
        have hfz27_1 := blk_frozen BK298.out 1
        go_wp2
        go_meet
        case rel => exact ⟨_, (true), sZ, H', ⟨by have := HJ8.out; first | omega | exact Nat.le_refl _⟩, ⟨kZ BK298.out⟩, ⟨bZ⟩⟩
      ·replace c22 := Bool.eq_false_iff.mpr c22
       subst c22
       have H1 : (impl_treeCode.j1 kj8 l4 false false l0_0 l0_1) = some r := by rw [if_neg (show ¬ (false = true) by decide)] at H; exact H
       clear H
       have H := H1
       clear H1
       have H' := Aside0.mk H
       clear H
       go_wp2
       go_meet
       case rel => exact ⟨_, (false), sZ, H', ⟨by have := HJ8.out; first | omega | exact Nat.le_refl _⟩, ⟨kZ BK298.out⟩, ⟨bZ⟩⟩
     case rest =>
      clear HC21; (try clear c1); (try clear c2); (try clear p2); (try clear c3); (try clear c4); (try clear c8); (try clear c14); (try clear c20); (try clear c22); (try clear c23); (try clear c23b0); (try clear c23b1); (try clear c23b2); (try clear hcz11_0); (try clear hcz11_1); (try clear hcz16_0); (try clear hcz16_1); (try clear hcz18_0); (try clear hcz18_1); (try clear hcz25_0); (try clear hcz25_1); (try clear hcz27_0); (try clear hcz27_1); (try clear hfz11_0); (try clear hfz11_1); (try clear hfz16_0); (try clear hfz16_1); (try clear hfz18_0); (try clear hfz18_1); (try clear hfz25_0); (try clear hfz25_1); (try clear hfz27_0); (try clear hfz27_1); (try clear p2)
      obtain ⟨kq, x27_20, rfl, HA, HJ20, BK298, HB⟩ := hcut
      cases kq with
      | zero => exact absurd HA.out (by simp [impl_treeCode.j1])
      | succ kj20 =>
       have H := HA.out
       clear HA
       simp only [impl_treeCode.j1] at H
       by_cases c28 : x27_20 = true
       ·subst c28
        have H1 : (some 7) = some r := by rw [if_pos rfl] at H; exact H
        clear H
        have H := H1
        clear H1
        obtain rfl := Option.some.inj H
        go_wp2
        go_ret
        exact ⟨eZ, bZ⟩
       ·replace c28 := Bool.eq_false_iff.mpr c28
        subst c28
        have H1 : (if a5 = true then (impl_treeCode.j2 kj20 false l0_0 l0_1) else ((impl_Network_flowsOk.f l0_0 l0_1 l4).bind fun t303 => (impl_treeCode.j2 kj20 (!t303) l0_0 l0_1))) = some r := by rw [if_neg (show ¬ (false = true) by decide)] at H; exact H
        clear H
        have H := H1
        clear H1
        have HC29 := Aside0.mk H
        clear H
        go_upto_region 7 with (fail)
        go_cut [42] (fun v42 wc => ∃ (kq : Nat) (x42_28 : Bool), v42 = .bool x42_28 ∧ Aside0 (impl_treeCode.j2 kq x42_28 l0_0 l0_1 = some r) ∧ Aside0 (kq ≤ kj20) ∧ Aside0 (wc.heap[gb298]? = some (.cells #[(.slice A0_0 l0_0.length c0_0), (.slice A0_1 l0_1.length c0_1)] 31 (0, 0))) ∧ Aside0 (Below w.heap.size w wc))
        case first =>
         have H := HC29.out
         clear HC29
         by_cases c30 : a5 = true
         ·subst c30
          have H1 : (impl_treeCode.j2 kj20 false l0_0 l0_1) = some r := by rw [if_pos rfl] at H; exact H
          clear H
          have H := H1
          clear H1
          have H' := Aside0.mk H
          clear H
          go_wp2
          go_meet
          case rel => exact ⟨_, (false), sZ, H', ⟨by have := HJ8.out; have := HJ20.out; first | omega | exact Nat.le_refl _⟩, ⟨kZ BK298.out⟩, ⟨bZ⟩⟩
         ·replace c30 := Bool.eq_false_iff.mpr c30
          subst c30
          have H1 : ((impl_Network_flowsOk.f l0_0 l0_1 l4).bind fun t303 => (impl_treeCode.j2 kj20 (!t303) l0_0 l0_1)) = some r := by rw [if_neg (show ¬ (false = true) by decide)] at H; exact H
          clear H
          have H := H1
          clear H1
          replace H := Option.bind_eq_some_iff.mp H
          obtain ⟨t303, A310, H⟩ := H
          replace H : (impl_treeCode.j2 kj20 (!t303) l0_0 l0_1) = some r := H
          have A31 := Aside0.mk A310
          clear A310
          have H' := Aside0.mk H
          clear H
          have hcz32_0 := bc0 BK298.out
          have hcz32_1 := bc1 BK298.out
          have hfz32_0 := blk_frozen BK298.out 0
          have hfz32_1 := blk_frozen BK298.out 1
          go_wp2_with (first | (go_at_call 60; (with_reducible refine (impl_Network_flowsOk.calls _ _ l0_0 _ _ l0_1 _ _ l4 t303 _ ?side1 ?side2 ?side3 ?side4 ?side5 ?side6 A31.out).mono ?_); (case side1 => repeat (first | exact (Kd.C_below HR0_0.out HB.out) | (with_reducible refine Kd.C_alloc ?_ _) | (with_reducible refine Kd.C_drewN ?_ _) | (with_reducible refine Kd.C_drew ?_))); (case side2 => exact HC0_0.out); (case side3 => repeat (first | exact (Kd.C_below HR0_1.out HB.out) | (with_reducible refine Kd.C_alloc ?_ _) | (with_reducible refine Kd.C_drewN ?_ _) | (with_reducible refine Kd.C_drew ?_))); (case side4 => exact HC0_1.out); (case side5 => repeat (first | exact (Kd.C_below HR4.out HB.out) | (with_reducible refine Kd.C_alloc ?_ _) | (with_reducible refine Kd.C_drewN ?_ _) | (with_reducible refine Kd.C_drew ?_))); (case side6 => exact HC4.out); rintro e w33 ⟨rfl, hb⟩; have n0_ := Aside0.mk (blk_below (g := gb298) (o := .cells #[.slice A0_0 l0_0.length c0_0, .slice A0_1 l0_1.length c0_1] 31 (0, 0)) (kZ BK298.out) hb); have n1_ := Aside0.mk (below_step bZ hb); clear BK298; clear HB; have BK298 := n0_; have HB := n1_; clear n0_ n1_; (try clear hb); (try clear hb2); (try clear hk); (try clear hi)))
          go_meet
          case rel => exact ⟨_, (!t303), sZ, H', ⟨by have := HJ8.out; have := HJ20.out; first | omega | exact Nat.le_refl _⟩, ⟨kZ BK298.out⟩, ⟨bZ⟩⟩
        case rest =>
         clear HC29; (try clear c1); (try clear c2); (try clear p2); (try clear c3); (try clear c4); (try clear c8); (try clear c14); (try clear c20); (try clear c22); (try clear c23); (try clear c23b0); (try clear c23b1); (try clear c23b2); (try clear c28); (try clear c30); (try clear hcz11_0); (try clear hcz11_1); (try clear hcz16_0); (try clear hcz16_1); (try clear hcz18_0); (try clear hcz18_1); (try clear hcz25_0); (try clear hcz25_1); (try clear hcz27_0); (try clear hcz27_1); (try clear hcz32_0); (try clear hcz32_1); (try clear hfz11_0); (try clear hfz11_1); (try clear hfz16_0); (try clear hfz16_1); (try clear hfz18_0); (try clear hfz18_1); (try clear hfz25_0); (try clear hfz25_1); (try clear hfz27_0); (try clear hfz27_1); (try clear hfz32_0); (try clear hfz32_1); (try clear p2)
         obtain ⟨kq, x42_28, rfl, HA, HJ28, BK298, HB⟩ := hcut
         cases kq with
         | zero => exact absurd HA.out (by simp [impl_treeCode.j2])
         | succ kj28 =>
          have H := HA.out
          clear HA
          simp only [impl_treeCode.j2] at H
          by_cases c34 : x42_28 = true
          ·subst c34
           have H1 : (some 7) = some r := by rw [if_pos rfl] at H; exact H
           clear H
           have H := H1
           clear H1
           obtain rfl := Option.some.inj H
           go_wp2
           go_ret
           exact ⟨eZ, bZ⟩
          ·replace c34 := Bool.eq_false_iff.mpr c34
           subst c34
           have H1 : ((impl_Network_isTree.f kj28 l0_0 l0_1).bind fun t304 => (if t304 = true then (some 0) else (some 6))) = some r := by rw [if_neg (show ¬ (false = true) by decide)] at H; exact H
           clear H
           have H := H1
           clear H1
           replace H := Option.bind_eq_some_iff.mp H
           obtain ⟨t304, A350, H⟩ := H
           replace H : (if t304 = true then (some 0) else (some 6)) = some r := H
           have A35 := Aside0.mk A350
           clear A350
           by_cases c36 : t304 = true
           ·subst c36
            have H1 : (some 0) = some r := by rw [if_pos rfl] at H; exact H
            clear H
            have H := H1
            clear H1
            obtain rfl := Option.some.inj H
            have hcz37_0 := bc0 BK298.out
            have hcz37_1 := bc1 BK298.out
            have hfz37_0 := blk_frozen BK298.out 0
            have hfz37_1 := blk_frozen BK298.out 1
            go_wp2_with (first | ((with_reducible refine gate_callee (f := 61) rfl ?_); refine goesL_ (some 53) rfl rfl Try.func61 (by kernel_rfl) rfl #[.agg #[.slice A0_0 l0_0.length c0_0, .slice A0_1 l0_1.length c0_1]] rfl gZ ?_; (with_reducible refine (impl_Network_isTree.calls kj28 _ _ l0_0 _ _ l0_1 true _ ?side1 ?side2 ?side3 ?side4 A35.out).mono ?_); (case side1 => repeat (first | exact (Kd.C_below HR0_0.out HB.out) | (with_reducible refine Kd.C_alloc ?_ _) | (with_reducible refine Kd.C_drewN ?_ _) | (with_reducible refine Kd.C_drew ?_))); (case side2 => exact HC0_0.out); (case side3 => repeat (first | exact (Kd.C_below HR0_1.out HB.out) | (with_reducible refine Kd.C_alloc ?_ _) | (with_reducible refine Kd.C_drewN ?_ _) | (with_reducible refine Kd.C_drew ?_))); (case side4 => exact HC0_1.out); rintro e w38 ⟨rfl, hb⟩; refine ⟨_, rfl, ?_⟩; have n0_ := Aside0.mk (blk_below (g := gb298) (o := .cells #[.slice A0_0 l0_0.length c0_0, .slice A0_1 l0_1.length c0_1] 31 (0, 0)) (kZ BK298.out) hb); have n1_ := Aside0.mk (below_step bZ hb); clear BK298; clear HB; have BK298 := n0_; have HB := n1_; clear n0_ n1_; (try clear hb); (try clear hb2); (try clear hk); (try clear hi)))
            go_ret
            exact ⟨eZ, bZ⟩
           ·replace c36 := Bool.eq_false_iff.mpr c36
            subst c36
            have H1 : (some 6) = some r := by rw [if_neg (show ¬ (false = true) by decide)] at H; exact H
            clear H
            have H := H1
            clear H1
            obtain rfl := Option.some.inj H
            have hcz39_0 := bc0 BK298.out
            have hcz39_1 := bc1 BK298.out
            have hfz39_0 := blk_frozen BK298.out 0
            have hfz39_1 := blk_frozen BK298.out 1
            go_wp2_with (first | ((with_reducible refine gate_callee (f := 61) rfl ?_); refine goesL_ (some 53) rfl rfl Try.func61 (by kernel_rfl) rfl #[.agg #[.slice A0_0 l0_0.length c0_0, .slice A0_1 l0_1.length c0_1]] rfl gZ ?_; (with_reducible refine (impl_Network_isTree.calls kj28 _ _ l0_0 _ _ l0_1 false _ ?side1 ?side2 ?side3 ?side4 A35.out).mono ?_); (case side1 => repeat (first | exact (Kd.C_below HR0_0.out HB.out) | (with_reducible refine Kd.C_alloc ?_ _) | (with_reducible refine Kd.C_drewN ?_ _) | (with_reducible refine Kd.C_drew ?_))); (case side2 => exact HC0_0.out); (case side3 => repeat (first | exact (Kd.C_below HR0_1.out HB.out) | (with_reducible refine Kd.C_alloc ?_ _) | (with_reducible refine Kd.C_drewN ?_ _) | (with_reducible refine Kd.C_drew ?_))); (case side4 => exact HC0_1.out); rintro e w40 ⟨rfl, hb⟩; refine ⟨_, rfl, ?_⟩; have n0_ := Aside0.mk (blk_below (g := gb298) (o := .cells #[.slice A0_0 l0_0.length c0_0, .slice A0_1 l0_1.length c0_1] 31 (0, 0)) (kZ BK298.out) hb); have n1_ := Aside0.mk (below_step bZ hb); clear BK298; clear HB; have BK298 := n0_; have HB := n1_; clear n0_ n1_; (try clear hb); (try clear hb2); (try clear hk); (try clear hi)))
            go_ret
            exact ⟨eZ, bZ⟩
 ·replace c8 := Bool.eq_false_iff.mpr c8
  subst c8
  have H1 : (some 1) = some r := by rw [if_neg (show ¬ (false = true) by decide)] at H; exact H
  clear H
  have H := H1
  clear H1
  obtain rfl := Option.some.inj H
  go_enter Try.func43, Try.ntmps43
  go_wp2_with (first | ((with_reducible refine gate_dst (N := 6) rfl ?_); (try (refine gate_guard (by rfl) ?_; dsimp only)); refine boxZ 6 #[.slice A0_0 l0_0.length c0_0, .slice A0_1 l0_1.length c0_1] 31 rfl rfl ?_; intro gb298 hg w41 hbox hb; have n0_ := Aside0.mk (below_step bZ hb); have n1_ := Aside0.mk (hbox); have n2_ := Aside0.mk ((by rw [hg]; exact bsZ : w.heap.size ≤ gb298)); have n3_ := Aside0.mk ((by rw [hg]; exact bsZ : w.heap.size ≤ gb298)); clear HB; have HB := n0_; have BK298 := n1_; have GW298 := n2_; have GE298 := n3_; clear n0_ n1_ n2_ n3_; clear hb hbox hg; have hcz42_0 := bc0 BK298.out; have hcz42_1 := bc1 BK298.out; have hfz42_0 := blk_frozen BK298.out 0; have hfz42_1 := blk_frozen BK298.out 1) | ((with_reducible refine gate_callee (f := 22) rfl ?_); refine goesL_ (some 15) rfl rfl Try.func22 (by kernel_rfl) rfl #[.agg #[.slice A0_0 l0_0.length c0_0, .slice A0_1 l0_1.length c0_1]] rfl gZ ?_; (with_reducible refine (impl_ValidNetwork.calls k _ _ l0_0 _ _ l0_1 false _ ?side1 ?side2 ?side3 ?side4 A7.out).mono ?_); (case side1 => repeat (first | exact (Kd.C_below HR0_0.out HB.out) | (with_reducible refine Kd.C_alloc ?_ _) | (with_reducible refine Kd.C_drewN ?_ _) | (with_reducible refine Kd.C_drew ?_))); (case side2 => exact HC0_0.out); (case side3 => repeat (first | exact (Kd.C_below HR0_1.out HB.out) | (with_reducible refine Kd.C_alloc ?_ _) | (with_reducible refine Kd.C_drewN ?_ _) | (with_reducible refine Kd.C_drew ?_))); (case side4 => exact HC0_1.out); rintro e w43 ⟨rfl, hb⟩; refine ⟨_, rfl, ?_⟩; have n0_ := Aside0.mk (blk_below (g := gb298) (o := .cells #[.slice A0_0 l0_0.length c0_0, .slice A0_1 l0_1.length c0_1] 31 (0, 0)) (kZ BK298.out) hb); have n1_ := Aside0.mk (below_step bZ hb); clear BK298; clear HB; have BK298 := n0_; have HB := n1_; clear n0_ n1_; (try clear hb); (try clear hb2); (try clear hk); (try clear hi)))
  go_ret
  exact ⟨eZ, bZ⟩
end Go.Proofs.Ythnhchpgpnaamaa.XG
end

section
namespace Go.Proofs.Ythnhchpgpnaamaa.XG
open Go.RowKit Go.Proofs.YthnhchpgpnaamaaW.PrintWords Go.Proofs.YthnhchpgpnaamaaW.PrintLast Go.Proofs.YthnhchpgpnaamaaW.PrintMore
attribute [local go_sem] run_eql_slice_nil binOp_string_gtr' binOp_string_leq' binOp_string_geq' max2_int min2_int max_two min_two max_three min_three max_four min_four   -- for this text's walks alone
set_option linter.unusedVariables false
set_option linter.unusedSimpArgs false
def impl_flowsCode.f (k : Nat) (l0_0 : List Int) (l0_1 : List (S59)) (a1 : Int) (l2 : List Int) (a3 : Int) : Option (Int) := (impl_treeCode.f k l0_0 l0_1 a1 a3 ([] : List Int) l2 false).bind fun t306 => (some t306)
set_option maxHeartbeats 8000000 in
set_option maxRecDepth 100000 in
theorem impl_flowsCode.calls (k : Nat) (A0_0 : Option Addr) (c0_0 : Nat) (l0_0 : List Int) (A0_1 : Option Addr) (c0_1 : Nat) (l0_1 : List (S59)) (a1 : Int) (A2 : Option Addr) (c2 : Nat) (l2 : List Int) (a3 : Int) (r : Int) (w : World) (hr0_0 : Kd.C (Kd.int .i64) w A0_0 l0_0.length l0_0) (hc0_0 : l0_0.length ≤ c0_0) (hr0_1 : Kd.C k59 w A0_1 l0_1.length l0_1) (hc0_1 : l0_1.length ≤ c0_1) (hr2 : Kd.C (Kd.int .i64) w A2 l2.length l2) (hc2 : l2.length ≤ c2) (h : impl_flowsCode.f k l0_0 l0_1 a1 l2 a3 = some r) :
  Calls Try.prog 24 #[.agg #[.slice A0_0 l0_0.length c0_0, .slice A0_1 l0_1.length c0_1], .int .i64 a1, .slice A2 l2.length c2, .int .i64 a3] w fun e w' => e = .returned (.int .i64 r) ∧ Below w.heap.size w w' := by
 have hu31 := Try.underlying31
 have HR0_0 := Aside0.mk hr0_0
 have HC0_0 := Aside0.mk hc0_0
 clear hr0_0 hc0_0
 have HR0_1 := Aside0.mk hr0_1
 have HC0_1 := Aside0.mk hc0_1
 clear hr0_1 hc0_1
 have HR2 := Aside0.mk hr2
 have HC2 := Aside0.mk hc2
 clear hr2 hc2
 have HB := Aside0.mk (Below.refl w.heap.size w)
 have H : ((impl_treeCode.f k l0_0 l0_1 a1 a3 ([] : List Int) l2 false).bind fun t306 => (some t306)) = some r := h
 clear h
 replace H := Option.bind_eq_some_iff.mp H
 obtain ⟨t306, A50, H⟩ := H
 replace H : (some t306) = some r := H
 have A5 := Aside0.mk A50
 clear A50
 obtain rfl := Option.some.inj H
 go_enter Try.func24, Try.ntmps24
 go_wp2_with (first | ((with_reducible refine gate_dst (N := 4) rfl ?_); refine boxZ 4 #[.slice A0_0 l0_0.length c0_0, .slice A0_1 l0_1.length c0_1] 31 rfl rfl ?_; intro gb305 hg w6 hbox hb; have n0_ := Aside0.mk (below_step bZ hb); have n1_ := Aside0.mk (hbox); have n2_ := Aside0.mk ((by rw [hg]; exact bsZ : w.heap.size ≤ gb305)); have n3_ := Aside0.mk ((by rw [hg]; exact bsZ : w.heap.size ≤ gb305)); clear HB; have HB := n0_; have BK305 := n1_; have GW305 := n2_; have GE305 := n3_; clear n0_ n1_ n2_ n3_; clear hb hbox hg; have hcz7_0 := bc0 BK305.out; have hcz7_1 := bc1 BK305.out; have hfz7_0 := blk_frozen BK305.out 0; have hfz7_1 := blk_frozen BK305.out 1) | ((with_reducible refine gate_callee (f := 43) rfl ?_); refine goesL_ (some 13) rfl rfl Try.func43 (by kernel_rfl) rfl #[.agg #[.slice A0_0 l0_0.length c0_0, .slice A0_1 l0_1.length c0_1], .int .i64 a1, .int .i64 a3, .slice none 0 0, .slice A2 l2.length c2, .bool false] rfl gZ ?_; (refine (impl_treeCode.calls k _ _ l0_0 _ _ l0_1 a1 a3 _ _ ([] : List Int) _ _ l2 false t306 _ ?side1 ?side2 ?side3 ?side4 ?side5 ?side6 ?side7 ?side8 A5.out).mono ?_); (case side1 => repeat (first | exact (Kd.C_below HR0_0.out HB.out) | (with_reducible refine Kd.C_alloc ?_ _) | (with_reducible refine Kd.C_drewN ?_ _) | (with_reducible refine Kd.C_drew ?_))); (case side2 => exact HC0_0.out); (case side3 => repeat (first | exact (Kd.C_below HR0_1.out HB.out) | (with_reducible refine Kd.C_alloc ?_ _) | (with_reducible refine Kd.C_drewN ?_ _) | (with_reducible refine Kd.C_drew ?_))); (case side4 => exact HC0_1.out); (case side5 => exact Kd.C_nil _ _); (case side6 => exact Nat.le_refl _); (case side7 => repeat (first | exact (Kd.C_below HR2.out HB.out) | (with_reducible refine Kd.C_alloc ?_ _) | (with_reducible refine Kd.C_drewN ?_ _) | (with_reducible refine Kd.C_drew ?_))); (case side8 => exact HC2.out); rintro e w8 ⟨rfl, hb⟩; refine ⟨_, rfl, ?_⟩; have n0_ := Aside0.mk (blk_below (g := gb305) (o := .cells #[.slice A0_0 l0_0.length c0_0, .slice A0_1 l0_1.length c0_1] 31 (0, 0)) (kZ BK305.out) hb); have n1_ := Aside0.mk (below_step bZ hb); clear BK305; clear HB; have BK305 := n0_; have HB := n1_; clear n0_ n1_; (try clear hb); (try clear hb2); (try clear hk); (try clear hi)))
 go_ret
 exact ⟨eZ, bZ⟩
end Go.Proofs.Ythnhchpgpnaamaa.XG
end
