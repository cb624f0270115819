/- The law FnExactDelayTo: part 7 of its texts, joined (wip/pack.py). -/
import Derived.Test.YthnhchpgpnaamaaKFnExactDelayToa
import Derived.Test.YthnhchpgpnaamaaKFnExactDelayTob
import Derived.Test.YthnhchpgpnaamaaKFnExactDelayToc
import Derived.Test.YthnhchpgpnaamaaKFnExactDelayTod
import Derived.Test.YthnhchpgpnaamaaKFnExactDelayToe
import Derived.Test.YthnhchpgpnaamaaKFnExactDelayTof
import Derived.Test.YthnhchpgpnaamaaKFnExactDelayTog

section
namespace Go.Proofs.Ythnhchpgpnaamaa.XG
open Go.RowKit Go.Proofs.YthnhchpgpnaamaaW.PrintWords Go.Proofs.YthnhchpgpnaamaaW.PrintLast Go.Proofs.YthnhchpgpnaamaaW.PrintMore
attribute [local go_sem] run_eql_slice_nil binOp_string_gtr' binOp_string_leq' binOp_string_geq' max2_int min2_int max_two min_two max_three min_three max_four min_four   -- for this text's walks alone
set_option linter.unusedVariables false
set_option linter.unusedSimpArgs false
mutual
def impl_Network_ways.l0 : Nat → List (S56) → List Int → Int → List Int → List (S59) → Option ((List (S56)))
 | 0, _, _, _, _, _ => none
 | k + 1, x5, x6, x7, x308000, x308001 => if x7 < (x6.length : Int) then (impl_Network_ways.l1 k x5 x6 x7 x308001 (x308001.length : Int) 0 x308000 x308001) else (some x5)
def impl_Network_ways.l1 : Nat → List (S56) → List Int → Int → List (S59) → Int → Int → List Int → List (S59) → Option ((List (S56)))
 | 0, _, _, _, _, _, _, _, _ => none
 | k + 1, x5, x6, x7, x21, x22, x23, x308000, x308001 => if x23 < x22 then (if 0 ≤ x23 then (if x23 < (x21.length : Int) then (if 0 ≤ x7 then (if x7 < (x6.length : Int) then ((impl_Pipe_other.f ((rd_T59 x21 x23).f0) ((rd_T59 x21 x23).f1) ((rd_T59 x21 x23).f2) ((rd_T59 x21 x23).f3) ((rd_T59 x21 x23).f4) ((rd_T59 x21 x23).f5) (rd x6 x7)).bind fun bt314 => (if bt314.2 = true then ((slices_Contains_int64S.f k x6 bt314.1).bind fun t316 => (if t316 = true then (impl_Network_ways.l1 k x5 x6 x7 x21 x22 (wrap64 (x23 + 1)) x308000 x308001) else (if x6.length < 17592186044416 then ((some (x6 ++ [bt314.1] : List Int)).bind fun y317 => (if x7 < (y317.length : Int) then (if x5.length < 5864062014805 then (impl_Network_ways.l1 k (x5 ++ [(⟨bt314.1, rd y317 x7, x23⟩ : S56)]) y317 x7 x21 x22 (wrap64 (x23 + 1)) x308000 x308001) else (none)) else (none))) else (none)))) else (impl_Network_ways.l1 k x5 x6 x7 x21 x22 (wrap64 (x23 + 1)) x308000 x308001))) else (none)) else (none)) else (none)) else (none)) else (impl_Network_ways.l0 k x5 x6 (wrap64 (x7 + 1)) x308000 x308001)
end
def impl_Network_ways.f (k : Nat) (l0_0 : List Int) (l0_1 : List (S59)) (a1 : Int) : Option ((List (S56))) := impl_Network_ways.l0 k ([] : List (S56)) (([a1] : List Int)) 0 l0_0 l0_1
def impl_Network_ways.T9 : Bool × List (List Nat × List Nat) := (true, [([], []), ([], []), ([], []), ([1, 2], [1, 2]), ([3], [3]), ([0, 4], [0, 4]), ([5], [5]), ([6], [6]), ([6], [6]), ([7, 5, 0, 1, 2, 3, 4, 5, 6, 7], [7]), ([8, 9, 0, 1, 2, 3, 4, 5, 6, 7, 8, 9], [8])])
def impl_Network_ways.B9 : List Nat := [0, 0, 0, 6, 14, 31, 63, 127, 127, 255, 1023]
theorem impl_Network_ways.tab9 : rtab .any (opsOf Try.f25 9) = impl_Network_ways.T9 := by kernel_rfl
theorem impl_Network_ways.bits9 : waitsOk impl_Network_ways.T9.2 impl_Network_ways.B9 = true := by kernel_rfl
set_option maxHeartbeats 8000000 in
set_option maxRecDepth 100000 in
theorem impl_Network_ways.calls (k : Nat) (A0_0 : Option Addr) (c0_0 : Nat) (l0_0 : List Int) (A0_1 : Option Addr) (c0_1 : Nat) (l0_1 : List (S59)) (a1 : Int) (r : List (S56)) (w : World) (hr0_0 : Kd.C (Kd.int .i64) w A0_0 l0_0.length l0_0) (hc0_0 : l0_0.length ≤ c0_0) (hr0_1 : Kd.C k59 w A0_1 l0_1.length l0_1) (hc0_1 : l0_1.length ≤ c0_1) (h : impl_Network_ways.f k l0_0 l0_1 a1 = some r) :
  Calls Try.prog 25 #[.agg #[.slice A0_0 l0_0.length c0_0, .slice A0_1 l0_1.length c0_1], .int .i64 a1] w fun e w' => ∃ v0_ : Value, e = .returned (v0_) ∧ Kd.R k56 56 w' w.heap.size (fun _ => True) v0_ r ∧ Below w.heap.size w w' := by
 have hu31 := Try.underlying31
 have hu59 := Try.underlying59
 have hu56 := Try.underlying56
 have HR0_0 := Aside0.mk hr0_0
 have HC0_0 := Aside0.mk hc0_0
 clear hr0_0 hc0_0
 have HR0_1 := Aside0.mk hr0_1
 have HC0_1 := Aside0.mk hc0_1
 clear hr0_1 hc0_1
 have HB := Aside0.mk (Below.refl w.heap.size w)
 have H : (impl_Network_ways.l0 k ([] : List (S56)) (([a1] : List Int)) 0 l0_0 l0_1) = some r := h
 clear h
 obtain ⟨y308, hy308⟩ : ∃ y_ : List Int, y_ = (([a1] : List Int)) := ⟨_, rfl⟩
 replace H : (impl_Network_ways.l0 k ([] : List (S56)) y308 0 l0_0 l0_1) = some r := by first | (rw [hy308]; with_reducible exact H) | (have H2_ := (Option.bind_some _ _).symm.trans H; rw [hy308]; with_reducible exact H2_) | (have H2_ := (Option.bind_some _ _).symm.trans H; with_reducible exact H2_) | with_reducible exact H | (rw [hy308]; exact H) | exact H
 have Ny308 := Aside0.mk hy308
 clear hy308
 have H' := Aside0.mk H
 clear H
 go_enter Try.func25, Try.ntmps25
 go_wp2_with (first | ((with_reducible refine gate_dst (N := 2) rfl ?_); refine boxZ 2 #[.slice A0_0 l0_0.length c0_0, .slice A0_1 l0_1.length c0_1] 31 rfl rfl ?_; intro gb307 hg w3 hbox hb; have n0_ := Aside0.mk (below_step bZ hb); have n1_ := Aside0.mk (hbox); have n2_ := Aside0.mk ((by rw [hg]; exact bsZ : w.heap.size ≤ gb307)); have n3_ := Aside0.mk ((by rw [hg]; exact bsZ : w.heap.size ≤ gb307)); clear HB; have HB := n0_; have BK307 := n1_; have GW307 := n2_; have GE307 := n3_; clear n0_ n1_ n2_ n3_; clear hb hbox hg) | ((with_reducible refine gate_dst (N := 13) rfl ?_); refine Kd.R_lit (Kd.int .i64) _ 2 ?hg (N := 13) ?hd (xs := ([a1] : List Int)) (inner := [.int .i64 a1]) (ok := fun _ => True) (okp := fun _ => True) ?hr ?hp (fun _ hk => hk) trivial (Below.refl _ _) (Nat.le_refl _) (by simp) ?_; (case hd => rfl); (case hg => rfl); (case hr => first | (go_simp; done) | (go_simp; rfl)); (case hp => exact (Reps.one (show Kd.M (Kd.int .i64) _ _ _ a1 [.int .i64 a1] from rfl) (Reps.none _ _))); intro v309 w4 ho5 hb hg_ hnew_; clear hg_ hnew_; (first | rw [← Ny308.out] at ho5 | (simp only [Int.reduceToNat] at ho5; rw [← Ny308.out] at ho5)); have n0_ := Aside0.mk (Kd.R_lower ho5 bsZ); have n1_ := Aside0.mk (blk_below (g := gb307) (o := .cells #[.slice A0_0 l0_0.length c0_0, .slice A0_1 l0_1.length c0_1] 31 (0, 0)) (kZ BK307.out) hb); have n2_ := Aside0.mk (below_step bZ hb); clear BK307; clear HB; have HO310 := n0_; have BK307 := n1_; have HB := n2_; clear n0_ n1_ n2_; clear hb ho5))
 go_loopg [5, 6, 7] k (fun kq v5 v6 v7 w' => ∃ (x5_1 : List (S56)) (x6_1 : List Int) (x7_1 : Int), v7 = .int .i64 x7_1 ∧ Aside0 (impl_Network_ways.l0 kq x5_1 x6_1 x7_1 l0_0 l0_1 = some r) ∧ Aside0 (kq ≤ k) ∧ Aside0 (Kd.R k56 56 w' w.heap.size (fun _ => True) v5 x5_1) ∧ Aside0 (Kd.R (Kd.int .i64) 2 w' w.heap.size (fun _ => True) v6 x6_1) ∧ Aside0 (w'.heap[gb307]? = some (.cells #[(.slice A0_0 l0_0.length c0_0), (.slice A0_1 l0_1.length c0_1)] 31 (0, 0))) ∧ Aside0 (Below w.heap.size w w'))
 case atStart => exact ⟨(([] : List (S56))), (y308), (0), sZ, H', ⟨Nat.le_refl _⟩, ⟨by first | exact Kd.R_nil _ _ _ _ _ | exact Kd.N_nil _ _ _ _ _ | exact Kd.V_nil _ _ _ _ _ | exact Kd.Q_nil _ _ _ _ _ | exact Kd.S_nil _ _ _ _ _⟩, ⟨Kd.rZ HO310.out⟩, ⟨kZ BK307.out⟩, ⟨bZ⟩⟩
 case round =>
  clear H'; (try clear c2); (try clear p2)
  obtain ⟨x5_1, x6_1, x7_1, rfl, HA, HK1, HO_5, HO_6, BK307, HB⟩ := hrel
  cases gk with
  | zero => exact absurd HA.out (by simp [impl_Network_ways.l0])
  | succ k1 =>
   have H := HA.out
   clear HA
   simp only [impl_Network_ways.l0] at H
   by_cases c6 : x7_1 < (x6_1.length : Int)
   ·rw [if_pos c6] at H
    have c6b0 : decide (x7_1 < (x6_1.length : Int)) = true := decide_eq_true c6
    clear c6
    have H' := Aside0.mk H
    clear H
    obtain ⟨Ao7, co7, eo7⟩ := Kd.R_slice HO_6.out
    subst eo7
    have hcz8_0 := bc0 BK307.out
    have hcz8_1 := bc1 BK307.out
    have hfz8_0 := blk_frozen BK307.out 0
    have hfz8_1 := blk_frozen BK307.out 1
    go_wp2
    go_loopg [5, 6, 23] k1 (fun kq v5 v6 v23 w' => ∃ (x5_2 : List (S56)) (x6_2 : List Int) (x23_2 : Int), v23 = .int .i64 x23_2 ∧ Aside0 (impl_Network_ways.l1 kq x5_2 x6_2 x7_1 l0_1 (l0_1.length : Int) x23_2 l0_0 l0_1 = some r) ∧ Aside0 (kq ≤ k1) ∧ Aside0 (Kd.R k56 56 w' w.heap.size (fun _ => True) v5 x5_2) ∧ Aside0 (Kd.R (Kd.int .i64) 2 w' w.heap.size (fun _ => True) v6 x6_2) ∧ Aside0 (w'.heap[gb307]? = some (.cells #[(.slice A0_0 l0_0.length c0_0), (.slice A0_1 l0_1.length c0_1)] 31 (0, 0))) ∧ Aside0 (Below w.heap.size w w'))
    case atStart => exact ⟨(x5_1), (x6_1), (0), sZ, H', ⟨Nat.le_refl _⟩, ⟨Kd.rZ HO_5.out⟩, ⟨Kd.rZ HO_6.out⟩, ⟨kZ BK307.out⟩, ⟨bZ⟩⟩
    case round =>
     clear H'; (try clear c2); (try clear p2); (try clear c6); (try clear c6b0); (try clear hcz8_0); (try clear hcz8_1); (try clear hfz8_0); (try clear hfz8_1); (try clear p2)
     obtain ⟨x5_2, x6_2, x23_2, rfl, HA, HK2, HO_5, HO_6, BK307, HB⟩ := hrel
     cases gk with
     | zero => exact absurd HA.out (by simp [impl_Network_ways.l1])
     | succ k2 =>
      have H := HA.out
      clear HA
      simp only [impl_Network_ways.l1] at H
      by_cases c9 : x23_2 < (l0_1.length : Int)
      ·rw [if_pos c9] at H
       have c9b0 : decide (x23_2 < (l0_1.length : Int)) = true := decide_eq_true c9
       clear c9
       by_cases c10 : 0 ≤ x23_2
       ·rw [if_pos c10] at H
        have c10b0 : decide (0 ≤ x23_2) = true := decide_eq_true c10
        clear c10
        by_cases c11 : x23_2 < (l0_1.length : Int)
        ·rw [if_pos c11] at H
         have c11b0 : decide (x23_2 < (l0_1.length : Int)) = true := decide_eq_true c11
         clear c11
         by_cases c12 : 0 ≤ x7_1
         ·rw [if_pos c12] at H
          have c12b0 : decide (0 ≤ x7_1) = true := decide_eq_true c12
          clear c12
          by_cases c13 : x7_1 < (x6_2.length : Int)
          ·rw [if_pos c13] at H
           have c13b0 : decide (x7_1 < (x6_2.length : Int)) = true := decide_eq_true c13
           clear c13
           replace H := Option.bind_eq_some_iff.mp H
           obtain ⟨⟨t314, t315⟩, A140, H⟩ := H
           replace H : (if t315 = true then ((slices_Contains_int64S.f k2 x6_2 t314).bind fun t316 => (if t316 = true then (impl_Network_ways.l1 k2 x5_2 x6_2 x7_1 l0_1 (l0_1.length : Int) (wrap64 (x23_2 + 1)) l0_0 l0_1) else (if x6_2.length < 17592186044416 then ((some (x6_2 ++ [t314] : List Int)).bind fun y317 => (if x7_1 < (y317.length : Int) then (if x5_2.length < 5864062014805 then (impl_Network_ways.l1 k2 (x5_2 ++ [(⟨t314, rd y317 x7_1, x23_2⟩ : S56)]) y317 x7_1 l0_1 (l0_1.length : Int) (wrap64 (x23_2 + 1)) l0_0 l0_1) else (none)) else (none))) else (none)))) else (impl_Network_ways.l1 k2 x5_2 x6_2 x7_1 l0_1 (l0_1.length : Int) (wrap64 (x23_2 + 1)) l0_0 l0_1)) = some r := H
           have A14 := Aside0.mk A140
           clear A140
           by_cases c15 : t315 = true
           ·subst c15
            have H1 : ((slices_Contains_int64S.f k2 x6_2 t314).bind fun t316 => (if t316 = true then (impl_Network_ways.l1 k2 x5_2 x6_2 x7_1 l0_1 (l0_1.length : Int) (wrap64 (x23_2 + 1)) l0_0 l0_1) else (if x6_2.length < 17592186044416 then ((some (x6_2 ++ [t314] : List Int)).bind fun y317 => (if x7_1 < (y317.length : Int) then (if x5_2.length < 5864062014805 then (impl_Network_ways.l1 k2 (x5_2 ++ [(⟨t314, rd y317 x7_1, x23_2⟩ : S56)]) y317 x7_1 l0_1 (l0_1.length : Int) (wrap64 (x23_2 + 1)) l0_0 l0_1) else (none)) else (none))) else (none)))) = some r := by rw [if_pos rfl] at H; exact H
            clear H
            have H := H1
            clear H1
            replace H := Option.bind_eq_some_iff.mp H
            obtain ⟨t316, A160, H⟩ := H
            replace H : (if t316 = true then (impl_Network_ways.l1 k2 x5_2 x6_2 x7_1 l0_1 (l0_1.length : Int) (wrap64 (x23_2 + 1)) l0_0 l0_1) else (if x6_2.length < 17592186044416 then ((some (x6_2 ++ [t314] : List Int)).bind fun y317 => (if x7_1 < (y317.length : Int) then (if x5_2.length < 5864062014805 then (impl_Network_ways.l1 k2 (x5_2 ++ [(⟨t314, rd y317 x7_1, x23_2⟩ : S56)]) y317 x7_1 l0_1 (l0_1.length : Int) (wrap64 (x23_2 + 1)) l0_0 l0_1) else (none)) else (none))) else (none))) = some r := H
            have A16 := Aside0.mk A160
            clear A160
            by_cases c17 : t316 = true
            ·subst c17
             have H1 : (impl_Network_ways.l1 k2 x5_2 x6_2 x7_1 l0_1 (l0_1.length : Int) (wrap64 (x23_2 + 1)) l0_0 l0_1) = some r := by rw [if_pos rfl] at H; exact H
             clear H
             have H := H1
             clear H1
             have H' := Aside0.mk H
             clear H
             have p311 : 0 ≤ (x23_2 : Int) := oZ
             have q311 : x23_2 < (l0_1.length : Int) := oZ
             obtain ⟨ad311, e311, hx311_0, hx311_1, hx311_2, hx311_3, hx311_4, hx311_5⟩ := at_T59 HR0_1.out x23_2 p311 q311
             cases e311
             replace hx311_0 := (HB.out.cell (World.block_lt_of_cell? w _ hx311_0)).trans hx311_0
             replace hx311_1 := (HB.out.cell (World.block_lt_of_cell? w _ hx311_1)).trans hx311_1
             replace hx311_2 := (HB.out.cell (World.block_lt_of_cell? w _ hx311_2)).trans hx311_2
             replace hx311_3 := (HB.out.cell (World.block_lt_of_cell? w _ hx311_3)).trans hx311_3
             replace hx311_4 := (HB.out.cell (World.block_lt_of_cell? w _ hx311_4)).trans hx311_4
             replace hx311_5 := (HB.out.cell (World.block_lt_of_cell? w _ hx311_5)).trans hx311_5
             replace p311 := eq_true p311
             replace q311 := eq_true q311
             try go_wp2_with (first | ((with_reducible refine gate_dst (N := 9) rfl ?_); refine boxZ 9 #[.string (⟨#[]⟩ : ByteArray), .int .i64 0, .int .i64 0, .int .i64 0, .int .i64 0, .int .i64 0] 59 rfl rfl ?_; intro gb312 hg w18 hbox hb; have n0_ := Aside0.mk (Kd.R_below (Kd.rZ HO_5.out) hb); have n1_ := Aside0.mk (Kd.R_below (Kd.rZ HO_6.out) hb); have n2_ := Aside0.mk (blk_below (g := gb307) (o := .cells #[.slice A0_0 l0_0.length c0_0, .slice (some ad311) l0_1.length c0_1] 31 (0, 0)) (kZ BK307.out) hb); have n3_ := Aside0.mk (below_step bZ hb); have n4_ := Aside0.mk (hbox); have n5_ := Aside0.mk ((by rw [hg]; exact bsZ : w.heap.size ≤ gb312)); have n6_ := Aside0.mk ((by rw [hg]; exact bsZ : w.heap.size ≤ gb312)); have n7_ := Aside0.mk ((by rw [hg]; exact Nat.ne_of_lt (blk_lt (g := gb307) (o := .cells #[.slice A0_0 l0_0.length c0_0, .slice (some ad311) l0_1.length c0_1] 31 (0, 0)) (kZ BK307.out)) : gb307 ≠ gb312)); have n8_ := Aside0.mk ((by rw [hg]; exact Nat.ne_of_gt (blk_lt (g := gb307) (o := .cells #[.slice A0_0 l0_0.length c0_0, .slice (some ad311) l0_1.length c0_1] 31 (0, 0)) (kZ BK307.out)) : gb312 ≠ gb307)); clear HO_5; clear HO_6; clear BK307; clear HB; have HO_5 := n0_; have HO_6 := n1_; have BK307 := n2_; have HB := n3_; have BK312 := n4_; have GW312 := n5_; have GE312 := n6_; have NB307_312 := n7_; have NB312_307 := n8_; clear n0_ n1_ n2_ n3_ n4_ n5_ n6_ n7_ n8_; clear hb hbox hg; have hnb19 := NB312_307.out; have hnc19 := NB307_312.out; have hcz20_0 := bc0 BK312.out; have hcz20_1 := bc1 BK312.out; have hcz20_2 := bc2 BK312.out; have hcz20_3 := bc3 BK312.out; have hcz20_4 := bc4 BK312.out; have hcz20_5 := bc5 BK312.out; have hfz20_0 := blk_frozen BK312.out 0; have hfz20_1 := blk_frozen BK312.out 1; have hfz20_2 := blk_frozen BK312.out 2; have hfz20_3 := blk_frozen BK312.out 3; have hfz20_4 := blk_frozen BK312.out 4; have hfz20_5 := blk_frozen BK312.out 5))
             have n0_ : Aside0 (Kd.R k56 56 ((((((w18.setCell ⟨gb312, 0, none⟩ (.string ((rd_T59 l0_1 x23_2).f0))).setCell ⟨gb312, 1, none⟩ (.int .i64 ((rd_T59 l0_1 x23_2).f1))).setCell ⟨gb312, 2, none⟩ (.int .i64 ((rd_T59 l0_1 x23_2).f2))).setCell ⟨gb312, 3, none⟩ (.int .i64 ((rd_T59 l0_1 x23_2).f3))).setCell ⟨gb312, 4, none⟩ (.int .i64 ((rd_T59 l0_1 x23_2).f4))).setCell ⟨gb312, 5, none⟩ (.int .i64 ((rd_T59 l0_1 x23_2).f5))) w.heap.size (fun _ => True) u5 x5_2) := ⟨Kd.rZ (Kd.R_mono (Kd.R_far (p := ⟨gb312, 5, none⟩) (Kd.R_far (p := ⟨gb312, 4, none⟩) (Kd.R_far (p := ⟨gb312, 3, none⟩) (Kd.R_far (p := ⟨gb312, 2, none⟩) (Kd.R_far (p := ⟨gb312, 1, none⟩) (Kd.R_far (p := ⟨gb312, 0, none⟩) (Kd.R_types HO_5.out BK312.out (by decide)) (fun _ hk => hk.2) (.string ((rd_T59 l0_1 x23_2).f0))) (fun _ hk => hk.2) (.int .i64 ((rd_T59 l0_1 x23_2).f1))) (fun _ hk => hk.2) (.int .i64 ((rd_T59 l0_1 x23_2).f2))) (fun _ hk => hk.2) (.int .i64 ((rd_T59 l0_1 x23_2).f3))) (fun _ hk => hk.2) (.int .i64 ((rd_T59 l0_1 x23_2).f4))) (fun _ hk => hk.2) (.int .i64 ((rd_T59 l0_1 x23_2).f5))) (fun _ hk => trivial))⟩
             have n1_ : Aside0 (Kd.R (Kd.int .i64) 2 ((((((w18.setCell ⟨gb312, 0, none⟩ (.string ((rd_T59 l0_1 x23_2).f0))).setCell ⟨gb312, 1, none⟩ (.int .i64 ((rd_T59 l0_1 x23_2).f1))).setCell ⟨gb312, 2, none⟩ (.int .i64 ((rd_T59 l0_1 x23_2).f2))).setCell ⟨gb312, 3, none⟩ (.int .i64 ((rd_T59 l0_1 x23_2).f3))).setCell ⟨gb312, 4, none⟩ (.int .i64 ((rd_T59 l0_1 x23_2).f4))).setCell ⟨gb312, 5, none⟩ (.int .i64 ((rd_T59 l0_1 x23_2).f5))) w.heap.size (fun _ => True) u6 x6_2) := ⟨Kd.rZ (Kd.R_mono (Kd.R_far (p := ⟨gb312, 5, none⟩) (Kd.R_far (p := ⟨gb312, 4, none⟩) (Kd.R_far (p := ⟨gb312, 3, none⟩) (Kd.R_far (p := ⟨gb312, 2, none⟩) (Kd.R_far (p := ⟨gb312, 1, none⟩) (Kd.R_far (p := ⟨gb312, 0, none⟩) (Kd.R_types HO_6.out BK312.out (by decide)) (fun _ hk => hk.2) (.string ((rd_T59 l0_1 x23_2).f0))) (fun _ hk => hk.2) (.int .i64 ((rd_T59 l0_1 x23_2).f1))) (fun _ hk => hk.2) (.int .i64 ((rd_T59 l0_1 x23_2).f2))) (fun _ hk => hk.2) (.int .i64 ((rd_T59 l0_1 x23_2).f3))) (fun _ hk => hk.2) (.int .i64 ((rd_T59 l0_1 x23_2).f4))) (fun _ hk => hk.2) (.int .i64 ((rd_T59 l0_1 x23_2).f5))) (fun _ hk => trivial))⟩
             have n2_ : Aside0 (((((((w18.setCell ⟨gb312, 0, none⟩ (.string ((rd_T59 l0_1 x23_2).f0))).setCell ⟨gb312, 1, none⟩ (.int .i64 ((rd_T59 l0_1 x23_2).f1))).setCell ⟨gb312, 2, none⟩ (.int .i64 ((rd_T59 l0_1 x23_2).f2))).setCell ⟨gb312, 3, none⟩ (.int .i64 ((rd_T59 l0_1 x23_2).f3))).setCell ⟨gb312, 4, none⟩ (.int .i64 ((rd_T59 l0_1 x23_2).f4))).setCell ⟨gb312, 5, none⟩ (.int .i64 ((rd_T59 l0_1 x23_2).f5))).heap[gb307]? = some (.cells #[.slice A0_0 l0_0.length c0_0, .slice (some ad311) l0_1.length c0_1] 31 (0, 0))) := ⟨by (with_reducible repeat (first | refine blk_drewN ?_ _ | refine blk_drew ?_ | refine blk_alloc ?_ _)); refine blk_far ?_ NB307_312.out _; (with_reducible repeat (first | refine blk_drewN ?_ _ | refine blk_drew ?_ | refine blk_alloc ?_ _)); refine blk_far ?_ NB307_312.out _; (with_reducible repeat (first | refine blk_drewN ?_ _ | refine blk_drew ?_ | refine blk_alloc ?_ _)); refine blk_far ?_ NB307_312.out _; (with_reducible repeat (first | refine blk_drewN ?_ _ | refine blk_drew ?_ | refine blk_alloc ?_ _)); refine blk_far ?_ NB307_312.out _; (with_reducible repeat (first | refine blk_drewN ?_ _ | refine blk_drew ?_ | refine blk_alloc ?_ _)); refine blk_far ?_ NB307_312.out _; (with_reducible repeat (first | refine blk_drewN ?_ _ | refine blk_drew ?_ | refine blk_alloc ?_ _)); refine blk_far ?_ NB307_312.out _; (with_reducible repeat (first | refine blk_drewN ?_ _ | refine blk_drew ?_ | refine blk_alloc ?_ _)); exact BK307.out⟩
             have n3_ : Aside0 (((((((w18.setCell ⟨gb312, 0, none⟩ (.string ((rd_T59 l0_1 x23_2).f0))).setCell ⟨gb312, 1, none⟩ (.int .i64 ((rd_T59 l0_1 x23_2).f1))).setCell ⟨gb312, 2, none⟩ (.int .i64 ((rd_T59 l0_1 x23_2).f2))).setCell ⟨gb312, 3, none⟩ (.int .i64 ((rd_T59 l0_1 x23_2).f3))).setCell ⟨gb312, 4, none⟩ (.int .i64 ((rd_T59 l0_1 x23_2).f4))).setCell ⟨gb312, 5, none⟩ (.int .i64 ((rd_T59 l0_1 x23_2).f5))).heap[gb312]? = some (.cells #[.string ((rd_T59 l0_1 x23_2).f0), .int .i64 ((rd_T59 l0_1 x23_2).f1), .int .i64 ((rd_T59 l0_1 x23_2).f2), .int .i64 ((rd_T59 l0_1 x23_2).f3), .int .i64 ((rd_T59 l0_1 x23_2).f4), .int .i64 ((rd_T59 l0_1 x23_2).f5)] 59 (0, 0))) := ⟨by (with_reducible repeat (first | refine blk_drewN ?_ _ | refine blk_drew ?_ | refine blk_alloc ?_ _)); refine blk_put (cs := #[.string ((rd_T59 l0_1 x23_2).f0), .int .i64 ((rd_T59 l0_1 x23_2).f1), .int .i64 ((rd_T59 l0_1 x23_2).f2), .int .i64 ((rd_T59 l0_1 x23_2).f3), .int .i64 ((rd_T59 l0_1 x23_2).f4), .int .i64 0]) ?_ 5 _ rfl; (with_reducible repeat (first | refine blk_drewN ?_ _ | refine blk_drew ?_ | refine blk_alloc ?_ _)); refine blk_put (cs := #[.string ((rd_T59 l0_1 x23_2).f0), .int .i64 ((rd_T59 l0_1 x23_2).f1), .int .i64 ((rd_T59 l0_1 x23_2).f2), .int .i64 ((rd_T59 l0_1 x23_2).f3), .int .i64 0, .int .i64 0]) ?_ 4 _ rfl; (with_reducible repeat (first | refine blk_drewN ?_ _ | refine blk_drew ?_ | refine blk_alloc ?_ _)); refine blk_put (cs := #[.string ((rd_T59 l0_1 x23_2).f0), .int .i64 ((rd_T59 l0_1 x23_2).f1), .int .i64 ((rd_T59 l0_1 x23_2).f2), .int .i64 0, .int .i64 0, .int .i64 0]) ?_ 3 _ rfl; (with_reducible repeat (first | refine blk_drewN ?_ _ | refine blk_drew ?_ | refine blk_alloc ?_ _)); refine blk_put (cs := #[.string ((rd_T59 l0_1 x23_2).f0), .int .i64 ((rd_T59 l0_1 x23_2).f1), .int .i64 0, .int .i64 0, .int .i64 0, .int .i64 0]) ?_ 2 _ rfl; (with_reducible repeat (first | refine blk_drewN ?_ _ | refine blk_drew ?_ | refine blk_alloc ?_ _)); refine blk_put (cs := #[.string ((rd_T59 l0_1 x23_2).f0), .int .i64 0, .int .i64 0, .int .i64 0, .int .i64 0, .int .i64 0]) ?_ 1 _ rfl; (with_reducible repeat (first | refine blk_drewN ?_ _ | refine blk_drew ?_ | refine blk_alloc ?_ _)); refine blk_put (cs := #[.string (⟨#[]⟩ : ByteArray), .int .i64 0, .int .i64 0, .int .i64 0, .int .i64 0, .int .i64 0]) ?_ 0 _ rfl; (with_reducible repeat (first | refine blk_drewN ?_ _ | refine blk_drew ?_ | refine blk_alloc ?_ _)); exact BK312.out⟩
             have n4_ : Aside0 (Below w.heap.size w ((((((w18.setCell ⟨gb312, 0, none⟩ (.string ((rd_T59 l0_1 x23_2).f0))).setCell ⟨gb312, 1, none⟩ (.int .i64 ((rd_T59 l0_1 x23_2).f1))).setCell ⟨gb312, 2, none⟩ (.int .i64 ((rd_T59 l0_1 x23_2).f2))).setCell ⟨gb312, 3, none⟩ (.int .i64 ((rd_T59 l0_1 x23_2).f3))).setCell ⟨gb312, 4, none⟩ (.int .i64 ((rd_T59 l0_1 x23_2).f4))).setCell ⟨gb312, 5, none⟩ (.int .i64 ((rd_T59 l0_1 x23_2).f5)))) := ⟨bZ⟩
             (try clear HO_5)
             (try clear HO_6)
             (try clear BK307)
             (try clear BK312)
             (try clear HB)
             generalize ((((((w18.setCell ⟨gb312, 0, none⟩ (.string ((rd_T59 l0_1 x23_2).f0))).setCell ⟨gb312, 1, none⟩ (.int .i64 ((rd_T59 l0_1 x23_2).f1))).setCell ⟨gb312, 2, none⟩ (.int .i64 ((rd_T59 l0_1 x23_2).f2))).setCell ⟨gb312, 3, none⟩ (.int .i64 ((rd_T59 l0_1 x23_2).f3))).setCell ⟨gb312, 4, none⟩ (.int .i64 ((rd_T59 l0_1 x23_2).f4))).setCell ⟨gb312, 5, none⟩ (.int .i64 ((rd_T59 l0_1 x23_2).f5))) = w21 at n0_ n1_ n2_ n3_ n4_ ⊢
             have HO_5 := n0_
             have HO_6 := n1_
             have BK307 := n2_
             have BK312 := n3_
             have HB := n4_
             clear n0_ n1_ n2_ n3_ n4_
             have n0_ := Aside0.mk (Kd.R_drew HO_5.out)
             have n1_ := Aside0.mk (Kd.R_drew HO_6.out)
             have n2_ := Aside0.mk (blk_drew BK307.out)
             have n3_ := Aside0.mk (blk_drew BK312.out)
             have n4_ := Aside0.mk (below_drew1 HB.out)
             clear HO_5; clear HO_6; clear BK307; clear BK312; clear HB
             have HO_5 := n0_
             have HO_6 := n1_
             have BK307 := n2_
             have BK312 := n3_
             have HB := n4_
             clear n0_ n1_ n2_ n3_ n4_
             obtain ⟨Ao23, co23, eo23⟩ := Kd.R_slice HO_6.out
             (first | subst eo23 | (injection eo23 with f1_ f2_ f3_; have f4_ := f1_.symm; have f5_ := f3_.symm; clear f1_ f2_ f3_; subst f4_; subst f5_))
             have p313 : 0 ≤ (x7_1 : Int) := oZ
             have q313 : x7_1 < (x6_2.length : Int) := oZ
             obtain ⟨ad313, e313, hx313_0⟩ := Kd.at_int (Kd.R_reads' HO_6.out).2.2 x7_1 p313 q313
             cases e313
             replace p313 := eq_true p313
             replace q313 := eq_true q313
             refine start_ (n := 11) (S := fun w' => w'.cell? ⟨gb312, 0, none⟩ = some (.string ((rd_T59 l0_1 x23_2).f0)) ∧ w'.cell? ⟨gb312, 1, none⟩ = some (.int .i64 ((rd_T59 l0_1 x23_2).f1)) ∧ w'.cell? ⟨gb312, 2, none⟩ = some (.int .i64 ((rd_T59 l0_1 x23_2).f2)) ∧ w'.cell? ⟨gb312, 3, none⟩ = some (.int .i64 ((rd_T59 l0_1 x23_2).f3)) ∧ w'.cell? ⟨gb312, 4, none⟩ = some (.int .i64 ((rd_T59 l0_1 x23_2).f4)) ∧ w'.cell? ⟨gb312, 5, none⟩ = some (.int .i64 ((rd_T59 l0_1 x23_2).f5)) ∧ w'.cell? (ad313.add (x7_1).toNat) = some (.int .i64 (rd x6_2 x7_1))) (ds := []) #[false, false, false, false, false, false, false, false, false, false, false] (by kernel_rfl) rfl rfl ⟨(blk_cell BK312.out 0).trans rfl, (blk_cell BK312.out 1).trans rfl, (blk_cell BK312.out 2).trans rfl, (blk_cell BK312.out 3).trans rfl, (blk_cell BK312.out 4).trans rfl, (blk_cell BK312.out 5).trans rfl, hx313_0⟩ (fun hHeld => ?_); refine with_tabW impl_Network_ways.tab9 impl_Network_ways.bits9 (fun HT_ HW_ => ?_)
             generalize w21.drew = w22 at HO_5 HO_6 BK307 BK312 HB hx313_0 hHeld ⊢
             refine puZ 1 (some 30) #[false, true, false, false, false, false, false, false, false, false, false] rfl rfl HT_.out ?_
             refine puZ 2 (some 31) #[false, true, true, false, false, false, false, false, false, false, false] rfl rfl HT_.out ?_
             refine puZ 3 (some 32) #[false, true, true, true, false, false, false, false, false, false, false] rfl rfl HT_.out ?_
             refine take_ (i := 0) (N := some 29) (v := ?_) (a' := ?_) #[true, true, true, true, false, false, false, false, false, false, false] rfl rfl (take_ofW HT_.out HW_.out (by kernel_rfl)) (fun _ _ _ h => h) (Or.inl ⟨by rfl, ?_⟩) hHeld ?_ ?_
             rotate_left
             ·rintro w' ⟨s0, s1, s2, s3, s4, s5, s6⟩
              go_simp
              with_reducible rfl
             rotate_left
             ·simp only [Act.put, List.setIfInBounds_toArray, List.set_cons_zero, List.set_cons_succ, i64_w, i32_w]
              rfl
             refine take_ (i := 4) (N := some 33) (v := ?_) (a' := ?_) #[true, true, true, true, true, false, false, false, false, false, false] rfl rfl (take_ofW HT_.out HW_.out (by kernel_rfl)) (fun _ _ _ h => h) (Or.inl ⟨by rfl, ?_⟩) hHeld ?_ ?_
             rotate_left
             ·rintro w' ⟨s0, s1, s2, s3, s4, s5, s6⟩
              go_simp
              with_reducible rfl
             rotate_left
             ·simp only [Act.put, List.setIfInBounds_toArray, List.set_cons_zero, List.set_cons_succ, i64_w, i32_w]
              rfl
             refine one_ (i := 5) (N := some 34) #[true, true, true, true, true, true, false, false, false, false, false] rfl rfl (one_of HT_.out (by kernel_rfl)) (by decide) (fun K hK => ?_)
             refine goes_ Try.func44 (by kernel_rfl) rfl #[.agg #[.string ((rd_T59 l0_1 x23_2).f0), .int .i64 ((rd_T59 l0_1 x23_2).f1), .int .i64 ((rd_T59 l0_1 x23_2).f2), .int .i64 ((rd_T59 l0_1 x23_2).f3), .int .i64 ((rd_T59 l0_1 x23_2).f4), .int .i64 ((rd_T59 l0_1 x23_2).f5)], .int .i64 (rd x6_2 x7_1)] (by rfl) rfl rfl gZ ?_
             with_reducible refine (impl_Pipe_other.calls ((rd_T59 l0_1 x23_2).f0) ((rd_T59 l0_1 x23_2).f1) ((rd_T59 l0_1 x23_2).f2) ((rd_T59 l0_1 x23_2).f3) ((rd_T59 l0_1 x23_2).f4) ((rd_T59 l0_1 x23_2).f5) (rd x6_2 x7_1) t314 true _ A14.out).mono ?_
             rintro e w24 ⟨rfl, hb⟩
             have HS6_ := (hb.cell (World.block_lt_of_cell? _ _ (hHeld.2.2.2.2.2.2))).trans (hHeld.2.2.2.2.2.2)
             refine ⟨_, rfl, ?_⟩
             have n0_ := Aside0.mk (Kd.R_below (Kd.rZ HO_5.out) hb)
             have n1_ := Aside0.mk (Kd.R_below (Kd.rZ HO_6.out) hb)
             have n2_ := Aside0.mk (blk_below (g := gb307) (o := .cells #[.slice A0_0 l0_0.length c0_0, .slice (some ad311) l0_1.length c0_1] 31 (0, 0)) (kZ BK307.out) hb)
             have n3_ := Aside0.mk (blk_below (g := gb312) (o := .cells #[.string ((rd_T59 l0_1 x23_2).f0), .int .i64 ((rd_T59 l0_1 x23_2).f1), .int .i64 ((rd_T59 l0_1 x23_2).f2), .int .i64 ((rd_T59 l0_1 x23_2).f3), .int .i64 ((rd_T59 l0_1 x23_2).f4), .int .i64 ((rd_T59 l0_1 x23_2).f5)] 59 (0, 0)) (kZ BK312.out) hb)
             have n4_ := Aside0.mk (below_step bZ hb)
             clear HO_5; clear HO_6; clear BK307; clear BK312; clear HB
             have HO_5 := n0_
             have HO_6 := n1_
             have BK307 := n2_
             have BK312 := n3_
             have HB := n4_
             clear n0_ n1_ n2_ n3_ n4_
             (try clear hb)
             (try clear hb2)
             (try clear hk)
             (try clear hi)
             refine hK.out _ _ ⟨(blk_cell BK312.out 0).trans rfl, (blk_cell BK312.out 1).trans rfl, (blk_cell BK312.out 2).trans rfl, (blk_cell BK312.out 3).trans rfl, (blk_cell BK312.out 4).trans rfl, (blk_cell BK312.out 5).trans rfl, HS6_⟩ (fun hHeld => ?_)
             clear hK K
             refine norm_ (a' := ?_) ?_ ?_
             rotate_left
             ·show Act.put _ (some 34) _ = _
              simp only [Act.put, List.setIfInBounds_toArray, List.set_cons_zero, List.set_cons_succ, i64_w, i32_w]
              rfl
             refine puZ 6 (some 28) #[true, true, true, true, true, true, true, false, false, false, false] rfl rfl HT_.out ?_
             refine puZ 7 (some 35) #[true, true, true, true, true, true, true, true, false, false, false] rfl rfl HT_.out ?_
             refine puZ 8 (some 36) #[true, true, true, true, true, true, true, true, true, false, false] rfl rfl HT_.out ?_
             refine puZ 9 (some 10) #[true, true, true, true, true, true, true, true, true, true, false] rfl rfl HT_.out ?_
             refine puZ 10 (some 11) #[true, true, true, true, true, true, true, true, true, true, true] rfl rfl HT_.out ?_
             refine done_ (done_of HT_.out (by kernel_rfl)) ?_
             try go_wp2_with (first | (go_at_call 45; (with_reducible refine (slices_Contains_int64S.calls k2 _ _ x6_2 t314 true _ ?side1 ?side2 A16.out).mono ?_); (case side1 => exact Kd.cZ HO_6.out); (case side2 => exact (Kd.R_reads' HO_6.out).2.1); rintro e w' ⟨rfl, ⟨nd, rfl⟩⟩))
             go_roundg k2
             case measure => have := HK1.out; have := HK2.out; omega
             case rel => exact ⟨(x5_2), (x6_2), (wrap64 (x23_2 + 1)), sZ, H', ⟨by have := HK1.out; have := HK2.out; omega⟩, ⟨Kd.rZ HO_5.out⟩, ⟨Kd.rZ HO_6.out⟩, ⟨kZ BK307.out⟩, ⟨bZ⟩⟩
            ·replace c17 := Bool.eq_false_iff.mpr c17
             subst c17
             have H1 : (if x6_2.length < 17592186044416 then ((some (x6_2 ++ [t314] : List Int)).bind fun y317 => (if x7_1 < (y317.length : Int) then (if x5_2.length < 5864062014805 then (impl_Network_ways.l1 k2 (x5_2 ++ [(⟨t314, rd y317 x7_1, x23_2⟩ : S56)]) y317 x7_1 l0_1 (l0_1.length : Int) (wrap64 (x23_2 + 1)) l0_0 l0_1) else (none)) else (none))) else (none)) = some r := by rw [if_neg (show ¬ (false = true) by decide)] at H; exact H
             clear H
             have H := H1
             clear H1
             by_cases c25 : x6_2.length < 17592186044416
             ·rw [if_pos c25] at H
              have LMc25 := Aside0.mk c25
              clear c25
              obtain ⟨y317, hy317⟩ : ∃ y_ : List Int, y_ = (x6_2 ++ [t314]) := ⟨_, rfl⟩
              replace H : (if x7_1 < (y317.length : Int) then (if x5_2.length < 5864062014805 then (impl_Network_ways.l1 k2 (x5_2 ++ [(⟨t314, rd y317 x7_1, x23_2⟩ : S56)]) y317 x7_1 l0_1 (l0_1.length : Int) (wrap64 (x23_2 + 1)) l0_0 l0_1) else (none)) else (none)) = some r := by first | (rw [hy317]; with_reducible exact H) | (have H2_ := (Option.bind_some _ _).symm.trans H; rw [hy317]; with_reducible exact H2_) | (have H2_ := (Option.bind_some _ _).symm.trans H; with_reducible exact H2_) | with_reducible exact H | (rw [hy317]; exact H) | exact H
              have Ny317 := Aside0.mk hy317
              clear hy317
              by_cases c26 : x7_1 < (y317.length : Int)
              ·rw [if_pos c26] at H
               have c26b0 : decide (x7_1 < (y317.length : Int)) = true := decide_eq_true c26
               clear c26
               by_cases c27 : x5_2.length < 5864062014805
               ·rw [if_pos c27] at H
                have LMc27 := Aside0.mk c27
                clear c27
                obtain ⟨y321, hy321⟩ : ∃ y_ : List (S56), y_ = (x5_2 ++ [(⟨t314, rd y317 x7_1, x23_2⟩ : S56)]) := ⟨_, rfl⟩
                replace H : (impl_Network_ways.l1 k2 y321 y317 x7_1 l0_1 (l0_1.length : Int) (wrap64 (x23_2 + 1)) l0_0 l0_1) = some r := by first | (rw [hy321]; with_reducible exact H) | (have H2_ := (Option.bind_some _ _).symm.trans H; rw [hy321]; with_reducible exact H2_) | (have H2_ := (Option.bind_some _ _).symm.trans H; with_reducible exact H2_) | with_reducible exact H | (rw [hy321]; exact H) | exact H
                have Ny321 := Aside0.mk hy321
                clear hy321
                have H' := Aside0.mk H
                clear H
                have p311 : 0 ≤ (x23_2 : Int) := oZ
                have q311 : x23_2 < (l0_1.length : Int) := oZ
                obtain ⟨ad311, e311, hx311_0, hx311_1, hx311_2, hx311_3, hx311_4, hx311_5⟩ := at_T59 HR0_1.out x23_2 p311 q311
                cases e311
                replace hx311_0 := (HB.out.cell (World.block_lt_of_cell? w _ hx311_0)).trans hx311_0
                replace hx311_1 := (HB.out.cell (World.block_lt_of_cell? w _ hx311_1)).trans hx311_1
                replace hx311_2 := (HB.out.cell (World.block_lt_of_cell? w _ hx311_2)).trans hx311_2
                replace hx311_3 := (HB.out.cell (World.block_lt_of_cell? w _ hx311_3)).trans hx311_3
                replace hx311_4 := (HB.out.cell (World.block_lt_of_cell? w _ hx311_4)).trans hx311_4
                replace hx311_5 := (HB.out.cell (World.block_lt_of_cell? w _ hx311_5)).trans hx311_5
                replace p311 := eq_true p311
                replace q311 := eq_true q311
                try go_wp2_with (first | ((with_reducible refine gate_dst (N := 9) rfl ?_); refine boxZ 9 #[.string (⟨#[]⟩ : ByteArray), .int .i64 0, .int .i64 0, .int .i64 0, .int .i64 0, .int .i64 0] 59 rfl rfl ?_; intro gb312 hg w28 hbox hb; have n0_ := Aside0.mk (Kd.R_below (Kd.rZ HO_5.out) hb); have n1_ := Aside0.mk (Kd.R_below (Kd.rZ HO_6.out) hb); have n2_ := Aside0.mk (blk_below (g := gb307) (o := .cells #[.slice A0_0 l0_0.length c0_0, .slice (some ad311) l0_1.length c0_1] 31 (0, 0)) (kZ BK307.out) hb); have n3_ := Aside0.mk (below_step bZ hb); have n4_ := Aside0.mk (hbox); have n5_ := Aside0.mk ((by rw [hg]; exact bsZ : w.heap.size ≤ gb312)); have n6_ := Aside0.mk ((by rw [hg]; exact bsZ : w.heap.size ≤ gb312)); have n7_ := Aside0.mk ((by rw [hg]; exact Nat.ne_of_lt (blk_lt (g := gb307) (o := .cells #[.slice A0_0 l0_0.length c0_0, .slice (some ad311) l0_1.length c0_1] 31 (0, 0)) (kZ BK307.out)) : gb307 ≠ gb312)); have n8_ := Aside0.mk ((by rw [hg]; exact Nat.ne_of_gt (blk_lt (g := gb307) (o := .cells #[.slice A0_0 l0_0.length c0_0, .slice (some ad311) l0_1.length c0_1] 31 (0, 0)) (kZ BK307.out)) : gb312 ≠ gb307)); clear HO_5; clear HO_6; clear BK307; clear HB; have HO_5 := n0_; have HO_6 := n1_; have BK307 := n2_; have HB := n3_; have BK312 := n4_; have GW312 := n5_; have GE312 := n6_; have NB307_312 := n7_; have NB312_307 := n8_; clear n0_ n1_ n2_ n3_ n4_ n5_ n6_ n7_ n8_; clear hb hbox hg; have hnb29 := NB312_307.out; have hnc29 := NB307_312.out; have hcz30_0 := bc0 BK312.out; have hcz30_1 := bc1 BK312.out; have hcz30_2 := bc2 BK312.out; have hcz30_3 := bc3 BK312.out; have hcz30_4 := bc4 BK312.out; have hcz30_5 := bc5 BK312.out; have hfz30_0 := blk_frozen BK312.out 0; have hfz30_1 := blk_frozen BK312.out 1; have hfz30_2 := blk_frozen BK312.out 2; have hfz30_3 := blk_frozen BK312.out 3; have hfz30_4 := blk_frozen BK312.out 4; have hfz30_5 := blk_frozen BK312.out 5))
                have n0_ : Aside0 (Kd.R k56 56 ((((((w28.setCell ⟨gb312, 0, none⟩ (.string ((rd_T59 l0_1 x23_2).f0))).setCell ⟨gb312, 1, none⟩ (.int .i64 ((rd_T59 l0_1 x23_2).f1))).setCell ⟨gb312, 2, none⟩ (.int .i64 ((rd_T59 l0_1 x23_2).f2))).setCell ⟨gb312, 3, none⟩ (.int .i64 ((rd_T59 l0_1 x23_2).f3))).setCell ⟨gb312, 4, none⟩ (.int .i64 ((rd_T59 l0_1 x23_2).f4))).setCell ⟨gb312, 5, none⟩ (.int .i64 ((rd_T59 l0_1 x23_2).f5))) w.heap.size (fun _ => True) u5 x5_2) := ⟨Kd.rZ (Kd.R_mono (Kd.R_far (p := ⟨gb312, 5, none⟩) (Kd.R_far (p := ⟨gb312, 4, none⟩) (Kd.R_far (p := ⟨gb312, 3, none⟩) (Kd.R_far (p := ⟨gb312, 2, none⟩) (Kd.R_far (p := ⟨gb312, 1, none⟩) (Kd.R_far (p := ⟨gb312, 0, none⟩) (Kd.R_types HO_5.out BK312.out (by decide)) (fun _ hk => hk.2) (.string ((rd_T59 l0_1 x23_2).f0))) (fun _ hk => hk.2) (.int .i64 ((rd_T59 l0_1 x23_2).f1))) (fun _ hk => hk.2) (.int .i64 ((rd_T59 l0_1 x23_2).f2))) (fun _ hk => hk.2) (.int .i64 ((rd_T59 l0_1 x23_2).f3))) (fun _ hk => hk.2) (.int .i64 ((rd_T59 l0_1 x23_2).f4))) (fun _ hk => hk.2) (.int .i64 ((rd_T59 l0_1 x23_2).f5))) (fun _ hk => trivial))⟩
                have n1_ : Aside0 (Kd.R (Kd.int .i64) 2 ((((((w28.setCell ⟨gb312, 0, none⟩ (.string ((rd_T59 l0_1 x23_2).f0))).setCell ⟨gb312, 1, none⟩ (.int .i64 ((rd_T59 l0_1 x23_2).f1))).setCell ⟨gb312, 2, none⟩ (.int .i64 ((rd_T59 l0_1 x23_2).f2))).setCell ⟨gb312, 3, none⟩ (.int .i64 ((rd_T59 l0_1 x23_2).f3))).setCell ⟨gb312, 4, none⟩ (.int .i64 ((rd_T59 l0_1 x23_2).f4))).setCell ⟨gb312, 5, none⟩ (.int .i64 ((rd_T59 l0_1 x23_2).f5))) w.heap.size (fun _ => True) u6 x6_2) := ⟨Kd.rZ (Kd.R_mono (Kd.R_far (p := ⟨gb312, 5, none⟩) (Kd.R_far (p := ⟨gb312, 4, none⟩) (Kd.R_far (p := ⟨gb312, 3, none⟩) (Kd.R_far (p := ⟨gb312, 2, none⟩) (Kd.R_far (p := ⟨gb312, 1, none⟩) (Kd.R_far (p := ⟨gb312, 0, none⟩) (Kd.R_types HO_6.out BK312.out (by decide)) (fun _ hk => hk.2) (.string ((rd_T59 l0_1 x23_2).f0))) (fun _ hk => hk.2) (.int .i64 ((rd_T59 l0_1 x23_2).f1))) (fun _ hk => hk.2) (.int .i64 ((rd_T59 l0_1 x23_2).f2))) (fun _ hk => hk.2) (.int .i64 ((rd_T59 l0_1 x23_2).f3))) (fun _ hk => hk.2) (.int .i64 ((rd_T59 l0_1 x23_2).f4))) (fun _ hk => hk.2) (.int .i64 ((rd_T59 l0_1 x23_2).f5))) (fun _ hk => trivial))⟩
                have n2_ : Aside0 (((((((w28.setCell ⟨gb312, 0, none⟩ (.string ((rd_T59 l0_1 x23_2).f0))).setCell ⟨gb312, 1, none⟩ (.int .i64 ((rd_T59 l0_1 x23_2).f1))).setCell ⟨gb312, 2, none⟩ (.int .i64 ((rd_T59 l0_1 x23_2).f2))).setCell ⟨gb312, 3, none⟩ (.int .i64 ((rd_T59 l0_1 x23_2).f3))).setCell ⟨gb312, 4, none⟩ (.int .i64 ((rd_T59 l0_1 x23_2).f4))).setCell ⟨gb312, 5, none⟩ (.int .i64 ((rd_T59 l0_1 x23_2).f5))).heap[gb307]? = some (.cells #[.slice A0_0 l0_0.length c0_0, .slice (some ad311) l0_1.length c0_1] 31 (0, 0))) := ⟨by (with_reducible repeat (first | refine blk_drewN ?_ _ | refine blk_drew ?_ | refine blk_alloc ?_ _)); refine blk_far ?_ NB307_312.out _; (with_reducible repeat (first | refine blk_drewN ?_ _ | refine blk_drew ?_ | refine blk_alloc ?_ _)); refine blk_far ?_ NB307_312.out _; (with_reducible repeat (first | refine blk_drewN ?_ _ | refine blk_drew ?_ | refine blk_alloc ?_ _)); refine blk_far ?_ NB307_312.out _; (with_reducible repeat (first | refine blk_drewN ?_ _ | refine blk_drew ?_ | refine blk_alloc ?_ _)); refine blk_far ?_ NB307_312.out _; (with_reducible repeat (first | refine blk_drewN ?_ _ | refine blk_drew ?_ | refine blk_alloc ?_ _)); refine blk_far ?_ NB307_312.out _; (with_reducible repeat (first | refine blk_drewN ?_ _ | refine blk_drew ?_ | refine blk_alloc ?_ _)); refine blk_far ?_ NB307_312.out _; (with_reducible repeat (first | refine blk_drewN ?_ _ | refine blk_drew ?_ | refine blk_alloc ?_ _)); exact BK307.out⟩
                have n3_ : Aside0 (((((((w28.setCell ⟨gb312, 0, none⟩ (.string ((rd_T59 l0_1 x23_2).f0))).setCell ⟨gb312, 1, none⟩ (.int .i64 ((rd_T59 l0_1 x23_2).f1))).setCell ⟨gb312, 2, none⟩ (.int .i64 ((rd_T59 l0_1 x23_2).f2))).setCell ⟨gb312, 3, none⟩ (.int .i64 ((rd_T59 l0_1 x23_2).f3))).setCell ⟨gb312, 4, none⟩ (.int .i64 ((rd_T59 l0_1 x23_2).f4))).setCell ⟨gb312, 5, none⟩ (.int .i64 ((rd_T59 l0_1 x23_2).f5))).heap[gb312]? = some (.cells #[.string ((rd_T59 l0_1 x23_2).f0), .int .i64 ((rd_T59 l0_1 x23_2).f1), .int .i64 ((rd_T59 l0_1 x23_2).f2), .int .i64 ((rd_T59 l0_1 x23_2).f3), .int .i64 ((rd_T59 l0_1 x23_2).f4), .int .i64 ((rd_T59 l0_1 x23_2).f5)] 59 (0, 0))) := ⟨by (with_reducible repeat (first | refine blk_drewN ?_ _ | refine blk_drew ?_ | refine blk_alloc ?_ _)); refine blk_put (cs := #[.string ((rd_T59 l0_1 x23_2).f0), .int .i64 ((rd_T59 l0_1 x23_2).f1), .int .i64 ((rd_T59 l0_1 x23_2).f2), .int .i64 ((rd_T59 l0_1 x23_2).f3), .int .i64 ((rd_T59 l0_1 x23_2).f4), .int .i64 0]) ?_ 5 _ rfl; (with_reducible repeat (first | refine blk_drewN ?_ _ | refine blk_drew ?_ | refine blk_alloc ?_ _)); refine blk_put (cs := #[.string ((rd_T59 l0_1 x23_2).f0), .int .i64 ((rd_T59 l0_1 x23_2).f1), .int .i64 ((rd_T59 l0_1 x23_2).f2), .int .i64 ((rd_T59 l0_1 x23_2).f3), .int .i64 0, .int .i64 0]) ?_ 4 _ rfl; (with_reducible repeat (first | refine blk_drewN ?_ _ | refine blk_drew ?_ | refine blk_alloc ?_ _)); refine blk_put (cs := #[.string ((rd_T59 l0_1 x23_2).f0), .int .i64 ((rd_T59 l0_1 x23_2).f1), .int .i64 ((rd_T59 l0_1 x23_2).f2), .int .i64 0, .int .i64 0, .int .i64 0]) ?_ 3 _ rfl; (with_reducible repeat (first | refine blk_drewN ?_ _ | refine blk_drew ?_ | refine blk_alloc ?_ _)); refine blk_put (cs := #[.string ((rd_T59 l0_1 x23_2).f0), .int .i64 ((rd_T59 l0_1 x23_2).f1), .int .i64 0, .int .i64 0, .int .i64 0, .int .i64 0]) ?_ 2 _ rfl; (with_reducible repeat (first | refine blk_drewN ?_ _ | refine blk_drew ?_ | refine blk_alloc ?_ _)); refine blk_put (cs := #[.string ((rd_T59 l0_1 x23_2).f0), .int .i64 0, .int .i64 0, .int .i64 0, .int .i64 0, .int .i64 0]) ?_ 1 _ rfl; (with_reducible repeat (first | refine blk_drewN ?_ _ | refine blk_drew ?_ | refine blk_alloc ?_ _)); refine blk_put (cs := #[.string (⟨#[]⟩ : ByteArray), .int .i64 0, .int .i64 0, .int .i64 0, .int .i64 0, .int .i64 0]) ?_ 0 _ rfl; (with_reducible repeat (first | refine blk_drewN ?_ _ | refine blk_drew ?_ | refine blk_alloc ?_ _)); exact BK312.out⟩
                have n4_ : Aside0 (Below w.heap.size w ((((((w28.setCell ⟨gb312, 0, none⟩ (.string ((rd_T59 l0_1 x23_2).f0))).setCell ⟨gb312, 1, none⟩ (.int .i64 ((rd_T59 l0_1 x23_2).f1))).setCell ⟨gb312, 2, none⟩ (.int .i64 ((rd_T59 l0_1 x23_2).f2))).setCell ⟨gb312, 3, none⟩ (.int .i64 ((rd_T59 l0_1 x23_2).f3))).setCell ⟨gb312, 4, none⟩ (.int .i64 ((rd_T59 l0_1 x23_2).f4))).setCell ⟨gb312, 5, none⟩ (.int .i64 ((rd_T59 l0_1 x23_2).f5)))) := ⟨bZ⟩
                (try clear HO_5)
                (try clear HO_6)
                (try clear BK307)
                (try clear BK312)
                (try clear HB)
                generalize ((((((w28.setCell ⟨gb312, 0, none⟩ (.string ((rd_T59 l0_1 x23_2).f0))).setCell ⟨gb312, 1, none⟩ (.int .i64 ((rd_T59 l0_1 x23_2).f1))).setCell ⟨gb312, 2, none⟩ (.int .i64 ((rd_T59 l0_1 x23_2).f2))).setCell ⟨gb312, 3, none⟩ (.int .i64 ((rd_T59 l0_1 x23_2).f3))).setCell ⟨gb312, 4, none⟩ (.int .i64 ((rd_T59 l0_1 x23_2).f4))).setCell ⟨gb312, 5, none⟩ (.int .i64 ((rd_T59 l0_1 x23_2).f5))) = w31 at n0_ n1_ n2_ n3_ n4_ ⊢
                have HO_5 := n0_
                have HO_6 := n1_
                have BK307 := n2_
                have BK312 := n3_
                have HB := n4_
                clear n0_ n1_ n2_ n3_ n4_
                have n0_ := Aside0.mk (Kd.R_drew HO_5.out)
                have n1_ := Aside0.mk (Kd.R_drew HO_6.out)
                have n2_ := Aside0.mk (blk_drew BK307.out)
                have n3_ := Aside0.mk (blk_drew BK312.out)
                have n4_ := Aside0.mk (below_drew1 HB.out)
                clear HO_5; clear HO_6; clear BK307; clear BK312; clear HB
                have HO_5 := n0_
                have HO_6 := n1_
                have BK307 := n2_
                have BK312 := n3_
                have HB := n4_
                clear n0_ n1_ n2_ n3_ n4_
                obtain ⟨Ao33, co33, eo33⟩ := Kd.R_slice HO_6.out
                (first | subst eo33 | (injection eo33 with f1_ f2_ f3_; have f4_ := f1_.symm; have f5_ := f3_.symm; clear f1_ f2_ f3_; subst f4_; subst f5_))
                have p313 : 0 ≤ (x7_1 : Int) := oZ
                have q313 : x7_1 < (x6_2.length : Int) := oZ
                obtain ⟨ad313, e313, hx313_0⟩ := Kd.at_int (Kd.R_reads' HO_6.out).2.2 x7_1 p313 q313
                cases e313
                replace p313 := eq_true p313
                replace q313 := eq_true q313
                refine start_ (n := 11) (S := fun w' => w'.cell? ⟨gb312, 0, none⟩ = some (.string ((rd_T59 l0_1 x23_2).f0)) ∧ w'.cell? ⟨gb312, 1, none⟩ = some (.int .i64 ((rd_T59 l0_1 x23_2).f1)) ∧ w'.cell? ⟨gb312, 2, none⟩ = some (.int .i64 ((rd_T59 l0_1 x23_2).f2)) ∧ w'.cell? ⟨gb312, 3, none⟩ = some (.int .i64 ((rd_T59 l0_1 x23_2).f3)) ∧ w'.cell? ⟨gb312, 4, none⟩ = some (.int .i64 ((rd_T59 l0_1 x23_2).f4)) ∧ w'.cell? ⟨gb312, 5, none⟩ = some (.int .i64 ((rd_T59 l0_1 x23_2).f5)) ∧ w'.cell? (ad313.add (x7_1).toNat) = some (.int .i64 (rd x6_2 x7_1))) (ds := []) #[false, false, false, false, false, false, false, false, false, false, false] (by kernel_rfl) rfl rfl ⟨(blk_cell BK312.out 0).trans rfl, (blk_cell BK312.out 1).trans rfl, (blk_cell BK312.out 2).trans rfl, (blk_cell BK312.out 3).trans rfl, (blk_cell BK312.out 4).trans rfl, (blk_cell BK312.out 5).trans rfl, hx313_0⟩ (fun hHeld => ?_); refine with_tabW impl_Network_ways.tab9 impl_Network_ways.bits9 (fun HT_ HW_ => ?_)
                generalize w31.drew = w32 at HO_5 HO_6 BK307 BK312 HB hx313_0 hHeld ⊢
                refine puZ 1 (some 30) #[false, true, false, false, false, false, false, false, false, false, false] rfl rfl HT_.out ?_
                refine puZ 2 (some 31) #[false, true, true, false, false, false, false, false, false, false, false] rfl rfl HT_.out ?_
                refine puZ 3 (some 32) #[false, true, true, true, false, false, false, false, false, false, false] rfl rfl HT_.out ?_
                refine take_ (i := 0) (N := some 29) (v := ?_) (a' := ?_) #[true, true, true, true, false, false, false, false, false, false, false] rfl rfl (take_ofW HT_.out HW_.out (by kernel_rfl)) (fun _ _ _ h => h) (Or.inl ⟨by rfl, ?_⟩) hHeld ?_ ?_
                rotate_left
                ·rintro w' ⟨s0, s1, s2, s3, s4, s5, s6⟩
                 go_simp
                 with_reducible rfl
                rotate_left
                ·simp only [Act.put, List.setIfInBounds_toArray, List.set_cons_zero, List.set_cons_succ, i64_w, i32_w]
                 rfl
                refine take_ (i := 4) (N := some 33) (v := ?_) (a' := ?_) #[true, true, true, true, true, false, false, false, false, false, false] rfl rfl (take_ofW HT_.out HW_.out (by kernel_rfl)) (fun _ _ _ h => h) (Or.inl ⟨by rfl, ?_⟩) hHeld ?_ ?_
                rotate_left
                ·rintro w' ⟨s0, s1, s2, s3, s4, s5, s6⟩
                 go_simp
                 with_reducible rfl
                rotate_left
                ·simp only [Act.put, List.setIfInBounds_toArray, List.set_cons_zero, List.set_cons_succ, i64_w, i32_w]
                 rfl
                refine one_ (i := 5) (N := some 34) #[true, true, true, true, true, true, false, false, false, false, false] rfl rfl (one_of HT_.out (by kernel_rfl)) (by decide) (fun K hK => ?_)
                refine goes_ Try.func44 (by kernel_rfl) rfl #[.agg #[.string ((rd_T59 l0_1 x23_2).f0), .int .i64 ((rd_T59 l0_1 x23_2).f1), .int .i64 ((rd_T59 l0_1 x23_2).f2), .int .i64 ((rd_T59 l0_1 x23_2).f3), .int .i64 ((rd_T59 l0_1 x23_2).f4), .int .i64 ((rd_T59 l0_1 x23_2).f5)], .int .i64 (rd x6_2 x7_1)] (by rfl) rfl rfl gZ ?_
                with_reducible refine (impl_Pipe_other.calls ((rd_T59 l0_1 x23_2).f0) ((rd_T59 l0_1 x23_2).f1) ((rd_T59 l0_1 x23_2).f2) ((rd_T59 l0_1 x23_2).f3) ((rd_T59 l0_1 x23_2).f4) ((rd_T59 l0_1 x23_2).f5) (rd x6_2 x7_1) t314 true _ A14.out).mono ?_
                rintro e w34 ⟨rfl, hb⟩
                have HS6_ := (hb.cell (World.block_lt_of_cell? _ _ (hHeld.2.2.2.2.2.2))).trans (hHeld.2.2.2.2.2.2)
                refine ⟨_, rfl, ?_⟩
                have n0_ := Aside0.mk (Kd.R_below (Kd.rZ HO_5.out) hb)
                have n1_ := Aside0.mk (Kd.R_below (Kd.rZ HO_6.out) hb)
                have n2_ := Aside0.mk (blk_below (g := gb307) (o := .cells #[.slice A0_0 l0_0.length c0_0, .slice (some ad311) l0_1.length c0_1] 31 (0, 0)) (kZ BK307.out) hb)
                have n3_ := Aside0.mk (blk_below (g := gb312) (o := .cells #[.string ((rd_T59 l0_1 x23_2).f0), .int .i64 ((rd_T59 l0_1 x23_2).f1), .int .i64 ((rd_T59 l0_1 x23_2).f2), .int .i64 ((rd_T59 l0_1 x23_2).f3), .int .i64 ((rd_T59 l0_1 x23_2).f4), .int .i64 ((rd_T59 l0_1 x23_2).f5)] 59 (0, 0)) (kZ BK312.out) hb)
                have n4_ := Aside0.mk (below_step bZ hb)
                clear HO_5; clear HO_6; clear BK307; clear BK312; clear HB
                have HO_5 := n0_
                have HO_6 := n1_
                have BK307 := n2_
                have BK312 := n3_
                have HB := n4_
                clear n0_ n1_ n2_ n3_ n4_
                (try clear hb)
                (try clear hb2)
                (try clear hk)
                (try clear hi)
                refine hK.out _ _ ⟨(blk_cell BK312.out 0).trans rfl, (blk_cell BK312.out 1).trans rfl, (blk_cell BK312.out 2).trans rfl, (blk_cell BK312.out 3).trans rfl, (blk_cell BK312.out 4).trans rfl, (blk_cell BK312.out 5).trans rfl, HS6_⟩ (fun hHeld => ?_)
                clear hK K
                refine norm_ (a' := ?_) ?_ ?_
                rotate_left
                ·show Act.put _ (some 34) _ = _
                 simp only [Act.put, List.setIfInBounds_toArray, List.set_cons_zero, List.set_cons_succ, i64_w, i32_w]
                 rfl
                refine puZ 6 (some 28) #[true, true, true, true, true, true, true, false, false, false, false] rfl rfl HT_.out ?_
                refine puZ 7 (some 35) #[true, true, true, true, true, true, true, true, false, false, false] rfl rfl HT_.out ?_
                refine puZ 8 (some 36) #[true, true, true, true, true, true, true, true, true, false, false] rfl rfl HT_.out ?_
                refine puZ 9 (some 10) #[true, true, true, true, true, true, true, true, true, true, false] rfl rfl HT_.out ?_
                refine puZ 10 (some 11) #[true, true, true, true, true, true, true, true, true, true, true] rfl rfl HT_.out ?_
                refine done_ (done_of HT_.out (by kernel_rfl)) ?_
                try go_wp2_with (first | (go_at_call 45; (with_reducible refine (slices_Contains_int64S.calls k2 _ _ x6_2 t314 false _ ?side1 ?side2 A16.out).mono ?_); (case side1 => exact Kd.cZ HO_6.out); (case side2 => exact (Kd.R_reads' HO_6.out).2.1); rintro e w' ⟨rfl, ⟨nd, rfl⟩⟩) | ((with_reducible refine gate_builtin (b := .append) (xs := #[.tmp 44, .tmp 46]) rfl ?_); at_builtin; refine Kd.R_append (Kd.int .i64) (w0 := w) w.heap.size rfl (.tmp 44) (.tmp 46) 22 2 (.int .i64 0) 8 rfl Try.underlying22 info2 rfl (by decide) (by omega) (.slice (some ad313) x6_2.length co33) x6_2 t314 [.int .i64 t314] (fun _ => True) (fun _ => False) rfl rfl ?aP (fun _ hk => hk.elim) ?aF ?aO ?aB ?aS ?aL ?_; (case aP => exact rfl); (case aB => exact bZ); (case aF => exact (fun _ _ => trivial)); (case aO => exact (Kd.rZ HO_6.out)); (case aS => exact bsZ); (case aL => have := LMc25.out; omega); intro v318 w35 ho hb hg hat; rw [← Ny317.out] at ho; have n0_ := Aside0.mk (Kd.R_over' (Kd.rZ HO_5.out) (Kd.R_typed (Kd.rZ HO_6.out)) (by decide) hg); have n1_ := Aside0.mk (blk_grown (g := gb307) (o := .cells #[.slice A0_0 l0_0.length c0_0, .slice (some ad311) l0_1.length c0_1] 31 (0, 0)) (kZ BK307.out) hg (Kd.R_ne HO_6.out BK307.out (by decide))); have n2_ := Aside0.mk (blk_grown (g := gb312) (o := .cells #[.string ((rd_T59 l0_1 x23_2).f0), .int .i64 ((rd_T59 l0_1 x23_2).f1), .int .i64 ((rd_T59 l0_1 x23_2).f2), .int .i64 ((rd_T59 l0_1 x23_2).f3), .int .i64 ((rd_T59 l0_1 x23_2).f4), .int .i64 ((rd_T59 l0_1 x23_2).f5)] 59 (0, 0)) (kZ BK312.out) hg (Kd.R_ne HO_6.out BK312.out (by decide))); have n3_ := Aside0.mk (hb); have n4_ := Aside0.mk (ho); clear HO_5; clear BK307; clear BK312; clear HB; clear HO_6; have HO_5 := n0_; have BK307 := n1_; have BK312 := n2_; have HB := n3_; have HO319 := n4_; clear n0_ n1_ n2_ n3_ n4_; clear ho hb hg hat; obtain ⟨Ao36, co36, eo36⟩ := Kd.R_slice HO319.out; subst eo36; have p320 : 0 ≤ (x7_1 : Int) := oZ; have q320 : x7_1 < (y317.length : Int) := oZ; obtain ⟨ad320, e320, hx320_0⟩ := Kd.at_int (Kd.R_reads' HO319.out).2.2 x7_1 p320 q320; cases e320; replace p320 := eq_true p320; replace q320 := eq_true q320) | ((with_reducible refine gate_builtin (b := .append) (xs := #[.tmp 48, .tmp 56]) rfl ?_); at_builtin; refine Kd.R_append k56 (w0 := w) w.heap.size rfl (.tmp 48) (.tmp 56) 53 56 (.agg #[(.int .i64 0), (.int .i64 0), (.int .i64 0)]) 24 rfl Try.underlying53 info56 rfl (by decide) (by omega) u5 x5_2 (⟨t314, rd y317 x7_1, x23_2⟩ : S56) [.int .i64 t314, .int .i64 (rd y317 x7_1), .int .i64 x23_2] (fun _ => True) (fun _ => False) rfl rfl ?aP (fun _ hk => hk.elim) ?aF ?aO ?aB ?aS ?aL ?_; (case aP => exact k56_mkM _ _ _ (⟨t314, rd y317 x7_1, x23_2⟩ : S56)); (case aB => exact bZ); (case aF => exact (fun _ _ => trivial)); (case aO => exact (Kd.rZ HO_5.out)); (case aS => exact bsZ); (case aL => have := LMc27.out; omega); intro v322 w37 ho hb hg hat; rw [← Ny321.out] at ho; have n0_ := Aside0.mk (blk_grown (g := gb307) (o := .cells #[.slice A0_0 l0_0.length c0_0, .slice (some ad311) l0_1.length c0_1] 31 (0, 0)) (kZ BK307.out) hg (Kd.R_ne HO_5.out BK307.out (by decide))); have n1_ := Aside0.mk (blk_grown (g := gb312) (o := .cells #[.string ((rd_T59 l0_1 x23_2).f0), .int .i64 ((rd_T59 l0_1 x23_2).f1), .int .i64 ((rd_T59 l0_1 x23_2).f2), .int .i64 ((rd_T59 l0_1 x23_2).f3), .int .i64 ((rd_T59 l0_1 x23_2).f4), .int .i64 ((rd_T59 l0_1 x23_2).f5)] 59 (0, 0)) (kZ BK312.out) hg (Kd.R_ne HO_5.out BK312.out (by decide))); have n2_ := Aside0.mk (Kd.R_over' (Kd.rZ HO319.out) (Kd.R_typed (Kd.rZ HO_5.out)) (by decide) hg); have n3_ := Aside0.mk (hb); have n4_ := Aside0.mk (ho); clear BK307; clear BK312; clear HO319; clear HB; clear HO_5; have BK307 := n0_; have BK312 := n1_; have HO319 := n2_; have HB := n3_; have HO323 := n4_; clear n0_ n1_ n2_ n3_ n4_; clear ho hb hg hat))
                go_roundg k2
                case measure => have := HK1.out; have := HK2.out; omega
                case rel => exact ⟨(y321), (y317), (wrap64 (x23_2 + 1)), sZ, H', ⟨by have := HK1.out; have := HK2.out; omega⟩, ⟨Kd.rZ HO323.out⟩, ⟨Kd.rZ HO319.out⟩, ⟨kZ BK307.out⟩, ⟨bZ⟩⟩
               ·rw [if_neg c27] at H
                exact absurd H (by simp)
              ·rw [if_neg c26] at H
               exact absurd H (by simp)
             ·rw [if_neg c25] at H
              exact absurd H (by simp)
           ·replace c15 := Bool.eq_false_iff.mpr c15
            subst c15
            have H1 : (impl_Network_ways.l1 k2 x5_2 x6_2 x7_1 l0_1 (l0_1.length : Int) (wrap64 (x23_2 + 1)) l0_0 l0_1) = some r := by rw [if_neg (show ¬ (false = true) by decide)] at H; exact H
            clear H
            have H := H1
            clear H1
            have H' := Aside0.mk H
            clear H
            have p311 : 0 ≤ (x23_2 : Int) := oZ
            have q311 : x23_2 < (l0_1.length : Int) := oZ
            obtain ⟨ad311, e311, hx311_0, hx311_1, hx311_2, hx311_3, hx311_4, hx311_5⟩ := at_T59 HR0_1.out x23_2 p311 q311
            cases e311
            replace hx311_0 := (HB.out.cell (World.block_lt_of_cell? w _ hx311_0)).trans hx311_0
            replace hx311_1 := (HB.out.cell (World.block_lt_of_cell? w _ hx311_1)).trans hx311_1
            replace hx311_2 := (HB.out.cell (World.block_lt_of_cell? w _ hx311_2)).trans hx311_2
            replace hx311_3 := (HB.out.cell (World.block_lt_of_cell? w _ hx311_3)).trans hx311_3
            replace hx311_4 := (HB.out.cell (World.block_lt_of_cell? w _ hx311_4)).trans hx311_4
            replace hx311_5 := (HB.out.cell (World.block_lt_of_cell? w _ hx311_5)).trans hx311_5
            replace p311 := eq_true p311
            replace q311 := eq_true q311
            try go_wp2_with (first | ((with_reducible refine gate_dst (N := 9) rfl ?_); refine boxZ 9 #[.string (⟨#[]⟩ : ByteArray), .int .i64 0, .int .i64 0, .int .i64 0, .int .i64 0, .int .i64 0] 59 rfl rfl ?_; intro gb312 hg w38 hbox hb; have n0_ := Aside0.mk (Kd.R_below (Kd.rZ HO_5.out) hb); have n1_ := Aside0.mk (Kd.R_below (Kd.rZ HO_6.out) hb); have n2_ := Aside0.mk (blk_below (g := gb307) (o := .cells #[.slice A0_0 l0_0.length c0_0, .slice (some ad311) l0_1.length c0_1] 31 (0, 0)) (kZ BK307.out) hb); have n3_ := Aside0.mk (below_step bZ hb); have n4_ := Aside0.mk (hbox); have n5_ := Aside0.mk ((by rw [hg]; exact bsZ : w.heap.size ≤ gb312)); have n6_ := Aside0.mk ((by rw [hg]; exact bsZ : w.heap.size ≤ gb312)); have n7_ := Aside0.mk ((by rw [hg]; exact Nat.ne_of_lt (blk_lt (g := gb307) (o := .cells #[.slice A0_0 l0_0.length c0_0, .slice (some ad311) l0_1.length c0_1] 31 (0, 0)) (kZ BK307.out)) : gb307 ≠ gb312)); have n8_ := Aside0.mk ((by rw [hg]; exact Nat.ne_of_gt (blk_lt (g := gb307) (o := .cells #[.slice A0_0 l0_0.length c0_0, .slice (some ad311) l0_1.length c0_1] 31 (0, 0)) (kZ BK307.out)) : gb312 ≠ gb307)); clear HO_5; clear HO_6; clear BK307; clear HB; have HO_5 := n0_; have HO_6 := n1_; have BK307 := n2_; have HB := n3_; have BK312 := n4_; have GW312 := n5_; have GE312 := n6_; have NB307_312 := n7_; have NB312_307 := n8_; clear n0_ n1_ n2_ n3_ n4_ n5_ n6_ n7_ n8_; clear hb hbox hg; have hnb39 := NB312_307.out; have hnc39 := NB307_312.out; have hcz40_0 := bc0 BK312.out; have hcz40_1 := bc1 BK312.out; have hcz40_2 := bc2 BK312.out; have hcz40_3 := bc3 BK312.out; have hcz40_4 := bc4 BK312.out; have hcz40_5 := bc5 BK312.out; have hfz40_0 := blk_frozen BK312.out 0; have hfz40_1 := blk_frozen BK312.out 1; have hfz40_2 := blk_frozen BK312.out 2; have hfz40_3 := blk_frozen BK312.out 3; have hfz40_4 := blk_frozen BK312.out 4; have hfz40_5 := blk_frozen BK312.out 5))
            have n0_ : Aside0 (Kd.R k56 56 ((((((w38.setCell ⟨gb312, 0, none⟩ (.string ((rd_T59 l0_1 x23_2).f0))).setCell ⟨gb312, 1, none⟩ (.int .i64 ((rd_T59 l0_1 x23_2).f1))).setCell ⟨gb312, 2, none⟩ (.int .i64 ((rd_T59 l0_1 x23_2).f2))).setCell ⟨gb312, 3, none⟩ (.int .i64 ((rd_T59 l0_1 x23_2).f3))).setCell ⟨gb312, 4, none⟩ (.int .i64 ((rd_T59 l0_1 x23_2).f4))).setCell ⟨gb312, 5, none⟩ (.int .i64 ((rd_T59 l0_1 x23_2).f5))) w.heap.size (fun _ => True) u5 x5_2) := ⟨Kd.rZ (Kd.R_mono (Kd.R_far (p := ⟨gb312, 5, none⟩) (Kd.R_far (p := ⟨gb312, 4, none⟩) (Kd.R_far (p := ⟨gb312, 3, none⟩) (Kd.R_far (p := ⟨gb312, 2, none⟩) (Kd.R_far (p := ⟨gb312, 1, none⟩) (Kd.R_far (p := ⟨gb312, 0, none⟩) (Kd.R_types HO_5.out BK312.out (by decide)) (fun _ hk => hk.2) (.string ((rd_T59 l0_1 x23_2).f0))) (fun _ hk => hk.2) (.int .i64 ((rd_T59 l0_1 x23_2).f1))) (fun _ hk => hk.2) (.int .i64 ((rd_T59 l0_1 x23_2).f2))) (fun _ hk => hk.2) (.int .i64 ((rd_T59 l0_1 x23_2).f3))) (fun _ hk => hk.2) (.int .i64 ((rd_T59 l0_1 x23_2).f4))) (fun _ hk => hk.2) (.int .i64 ((rd_T59 l0_1 x23_2).f5))) (fun _ hk => trivial))⟩
            have n1_ : Aside0 (Kd.R (Kd.int .i64) 2 ((((((w38.setCell ⟨gb312, 0, none⟩ (.string ((rd_T59 l0_1 x23_2).f0))).setCell ⟨gb312, 1, none⟩ (.int .i64 ((rd_T59 l0_1 x23_2).f1))).setCell ⟨gb312, 2, none⟩ (.int .i64 ((rd_T59 l0_1 x23_2).f2))).setCell ⟨gb312, 3, none⟩ (.int .i64 ((rd_T59 l0_1 x23_2).f3))).setCell ⟨gb312, 4, none⟩ (.int .i64 ((rd_T59 l0_1 x23_2).f4))).setCell ⟨gb312, 5, none⟩ (.int .i64 ((rd_T59 l0_1 x23_2).f5))) w.heap.size (fun _ => True) u6 x6_2) := ⟨Kd.rZ (Kd.R_mono (Kd.R_far (p := ⟨gb312, 5, none⟩) (Kd.R_far (p := ⟨gb312, 4, none⟩) (Kd.R_far (p := ⟨gb312, 3, none⟩) (Kd.R_far (p := ⟨gb312, 2, none⟩) (Kd.R_far (p := ⟨gb312, 1, none⟩) (Kd.R_far (p := ⟨gb312, 0, none⟩) (Kd.R_types HO_6.out BK312.out (by decide)) (fun _ hk => hk.2) (.string ((rd_T59 l0_1 x23_2).f0))) (fun _ hk => hk.2) (.int .i64 ((rd_T59 l0_1 x23_2).f1))) (fun _ hk => hk.2) (.int .i64 ((rd_T59 l0_1 x23_2).f2))) (fun _ hk => hk.2) (.int .i64 ((rd_T59 l0_1 x23_2).f3))) (fun _ hk => hk.2) (.int .i64 ((rd_T59 l0_1 x23_2).f4))) (fun _ hk => hk.2) (.int .i64 ((rd_T59 l0_1 x23_2).f5))) (fun _ hk => trivial))⟩
            have n2_ : Aside0 (((((((w38.setCell ⟨gb312, 0, none⟩ (.string ((rd_T59 l0_1 x23_2).f0))).setCell ⟨gb312, 1, none⟩ (.int .i64 ((rd_T59 l0_1 x23_2).f1))).setCell ⟨gb312, 2, none⟩ (.int .i64 ((rd_T59 l0_1 x23_2).f2))).setCell ⟨gb312, 3, none⟩ (.int .i64 ((rd_T59 l0_1 x23_2).f3))).setCell ⟨gb312, 4, none⟩ (.int .i64 ((rd_T59 l0_1 x23_2).f4))).setCell ⟨gb312, 5, none⟩ (.int .i64 ((rd_T59 l0_1 x23_2).f5))).heap[gb307]? = some (.cells #[.slice A0_0 l0_0.length c0_0, .slice (some ad311) l0_1.length c0_1] 31 (0, 0))) := ⟨by (with_reducible repeat (first | refine blk_drewN ?_ _ | refine blk_drew ?_ | refine blk_alloc ?_ _)); refine blk_far ?_ NB307_312.out _; (with_reducible repeat (first | refine blk_drewN ?_ _ | refine blk_drew ?_ | refine blk_alloc ?_ _)); refine blk_far ?_ NB307_312.out _; (with_reducible repeat (first | refine blk_drewN ?_ _ | refine blk_drew ?_ | refine blk_alloc ?_ _)); refine blk_far ?_ NB307_312.out _; (with_reducible repeat (first | refine blk_drewN ?_ _ | refine blk_drew ?_ | refine blk_alloc ?_ _)); refine blk_far ?_ NB307_312.out _; (with_reducible repeat (first | refine blk_drewN ?_ _ | refine blk_drew ?_ | refine blk_alloc ?_ _)); refine blk_far ?_ NB307_312.out _; (with_reducible repeat (first | refine blk_drewN ?_ _ | refine blk_drew ?_ | refine blk_alloc ?_ _)); refine blk_far ?_ NB307_312.out _; (with_reducible repeat (first | refine blk_drewN ?_ _ | refine blk_drew ?_ | refine blk_alloc ?_ _)); exact BK307.out⟩
            have n3_ : Aside0 (((((((w38.setCell ⟨gb312, 0, none⟩ (.string ((rd_T59 l0_1 x23_2).f0))).setCell ⟨gb312, 1, none⟩ (.int .i64 ((rd_T59 l0_1 x23_2).f1))).setCell ⟨gb312, 2, none⟩ (.int .i64 ((rd_T59 l0_1 x23_2).f2))).setCell ⟨gb312, 3, none⟩ (.int .i64 ((rd_T59 l0_1 x23_2).f3))).setCell ⟨gb312, 4, none⟩ (.int .i64 ((rd_T59 l0_1 x23_2).f4))).setCell ⟨gb312, 5, none⟩ (.int .i64 ((rd_T59 l0_1 x23_2).f5))).heap[gb312]? = some (.cells #[.string ((rd_T59 l0_1 x23_2).f0), .int .i64 ((rd_T59 l0_1 x23_2).f1), .int .i64 ((rd_T59 l0_1 x23_2).f2), .int .i64 ((rd_T59 l0_1 x23_2).f3), .int .i64 ((rd_T59 l0_1 x23_2).f4), .int .i64 ((rd_T59 l0_1 x23_2).f5)] 59 (0, 0))) := ⟨by (with_reducible repeat (first | refine blk_drewN ?_ _ | refine blk_drew ?_ | refine blk_alloc ?_ _)); refine blk_put (cs := #[.string ((rd_T59 l0_1 x23_2).f0), .int .i64 ((rd_T59 l0_1 x23_2).f1), .int .i64 ((rd_T59 l0_1 x23_2).f2), .int .i64 ((rd_T59 l0_1 x23_2).f3), .int .i64 ((rd_T59 l0_1 x23_2).f4), .int .i64 0]) ?_ 5 _ rfl; (with_reducible repeat (first | refine blk_drewN ?_ _ | refine blk_drew ?_ | refine blk_alloc ?_ _)); refine blk_put (cs := #[.string ((rd_T59 l0_1 x23_2).f0), .int .i64 ((rd_T59 l0_1 x23_2).f1), .int .i64 ((rd_T59 l0_1 x23_2).f2), .int .i64 ((rd_T59 l0_1 x23_2).f3), .int .i64 0, .int .i64 0]) ?_ 4 _ rfl; (with_reducible repeat (first | refine blk_drewN ?_ _ | refine blk_drew ?_ | refine blk_alloc ?_ _)); refine blk_put (cs := #[.string ((rd_T59 l0_1 x23_2).f0), .int .i64 ((rd_T59 l0_1 x23_2).f1), .int .i64 ((rd_T59 l0_1 x23_2).f2), .int .i64 0, .int .i64 0, .int .i64 0]) ?_ 3 _ rfl; (with_reducible repeat (first | refine blk_drewN ?_ _ | refine blk_drew ?_ | refine blk_alloc ?_ _)); refine blk_put (cs := #[.string ((rd_T59 l0_1 x23_2).f0), .int .i64 ((rd_T59 l0_1 x23_2).f1), .int .i64 0, .int .i64 0, .int .i64 0, .int .i64 0]) ?_ 2 _ rfl; (with_reducible repeat (first | refine blk_drewN ?_ _ | refine blk_drew ?_ | refine blk_alloc ?_ _)); refine blk_put (cs := #[.string ((rd_T59 l0_1 x23_2).f0), .int .i64 0, .int .i64 0, .int .i64 0, .int .i64 0, .int .i64 0]) ?_ 1 _ rfl; (with_reducible repeat (first | refine blk_drewN ?_ _ | refine blk_drew ?_ | refine blk_alloc ?_ _)); refine blk_put (cs := #[.string (⟨#[]⟩ : ByteArray), .int .i64 0, .int .i64 0, .int .i64 0, .int .i64 0, .int .i64 0]) ?_ 0 _ rfl; (with_reducible repeat (first | refine blk_drewN ?_ _ | refine blk_drew ?_ | refine blk_alloc ?_ _)); exact BK312.out⟩
            have n4_ : Aside0 (Below w.heap.size w ((((((w38.setCell ⟨gb312, 0, none⟩ (.string ((rd_T59 l0_1 x23_2).f0))).setCell ⟨gb312, 1, none⟩ (.int .i64 ((rd_T59 l0_1 x23_2).f1))).setCell ⟨gb312, 2, none⟩ (.int .i64 ((rd_T59 l0_1 x23_2).f2))).setCell ⟨gb312, 3, none⟩ (.int .i64 ((rd_T59 l0_1 x23_2).f3))).setCell ⟨gb312, 4, none⟩ (.int .i64 ((rd_T59 l0_1 x23_2).f4))).setCell ⟨gb312, 5, none⟩ (.int .i64 ((rd_T59 l0_1 x23_2).f5)))) := ⟨bZ⟩
            (try clear HO_5)
            (try clear HO_6)
            (try clear BK307)
            (try clear BK312)
            (try clear HB)
            generalize ((((((w38.setCell ⟨gb312, 0, none⟩ (.string ((rd_T59 l0_1 x23_2).f0))).setCell ⟨gb312, 1, none⟩ (.int .i64 ((rd_T59 l0_1 x23_2).f1))).setCell ⟨gb312, 2, none⟩ (.int .i64 ((rd_T59 l0_1 x23_2).f2))).setCell ⟨gb312, 3, none⟩ (.int .i64 ((rd_T59 l0_1 x23_2).f3))).setCell ⟨gb312, 4, none⟩ (.int .i64 ((rd_T59 l0_1 x23_2).f4))).setCell ⟨gb312, 5, none⟩ (.int .i64 ((rd_T59 l0_1 x23_2).f5))) = w41 at n0_ n1_ n2_ n3_ n4_ ⊢
            have HO_5 := n0_
            have HO_6 := n1_
            have BK307 := n2_
            have BK312 := n3_
            have HB := n4_
            clear n0_ n1_ n2_ n3_ n4_
            have n0_ := Aside0.mk (Kd.R_drew HO_5.out)
            have n1_ := Aside0.mk (Kd.R_drew HO_6.out)
            have n2_ := Aside0.mk (blk_drew BK307.out)
            have n3_ := Aside0.mk (blk_drew BK312.out)
            have n4_ := Aside0.mk (below_drew1 HB.out)
            clear HO_5; clear HO_6; clear BK307; clear BK312; clear HB
            have HO_5 := n0_
            have HO_6 := n1_
            have BK307 := n2_
            have BK312 := n3_
            have HB := n4_
            clear n0_ n1_ n2_ n3_ n4_
            obtain ⟨Ao43, co43, eo43⟩ := Kd.R_slice HO_6.out
            (first | subst eo43 | (injection eo43 with f1_ f2_ f3_; have f4_ := f1_.symm; have f5_ := f3_.symm; clear f1_ f2_ f3_; subst f4_; subst f5_))
            have p313 : 0 ≤ (x7_1 : Int) := oZ
            have q313 : x7_1 < (x6_2.length : Int) := oZ
            obtain ⟨ad313, e313, hx313_0⟩ := Kd.at_int (Kd.R_reads' HO_6.out).2.2 x7_1 p313 q313
            cases e313
            replace p313 := eq_true p313
            replace q313 := eq_true q313
            refine start_ (n := 11) (S := fun w' => w'.cell? ⟨gb312, 0, none⟩ = some (.string ((rd_T59 l0_1 x23_2).f0)) ∧ w'.cell? ⟨gb312, 1, none⟩ = some (.int .i64 ((rd_T59 l0_1 x23_2).f1)) ∧ w'.cell? ⟨gb312, 2, none⟩ = some (.int .i64 ((rd_T59 l0_1 x23_2).f2)) ∧ w'.cell? ⟨gb312, 3, none⟩ = some (.int .i64 ((rd_T59 l0_1 x23_2).f3)) ∧ w'.cell? ⟨gb312, 4, none⟩ = some (.int .i64 ((rd_T59 l0_1 x23_2).f4)) ∧ w'.cell? ⟨gb312, 5, none⟩ = some (.int .i64 ((rd_T59 l0_1 x23_2).f5)) ∧ w'.cell? (ad313.add (x7_1).toNat) = some (.int .i64 (rd x6_2 x7_1))) (ds := []) #[false, false, false, false, false, false, false, false, false, false, false] (by kernel_rfl) rfl rfl ⟨(blk_cell BK312.out 0).trans rfl, (blk_cell BK312.out 1).trans rfl, (blk_cell BK312.out 2).trans rfl, (blk_cell BK312.out 3).trans rfl, (blk_cell BK312.out 4).trans rfl, (blk_cell BK312.out 5).trans rfl, hx313_0⟩ (fun hHeld => ?_); refine with_tabW impl_Network_ways.tab9 impl_Network_ways.bits9 (fun HT_ HW_ => ?_)
            generalize w41.drew = w42 at HO_5 HO_6 BK307 BK312 HB hx313_0 hHeld ⊢
            refine puZ 1 (some 30) #[false, true, false, false, false, false, false, false, false, false, false] rfl rfl HT_.out ?_
            refine puZ 2 (some 31) #[false, true, true, false, false, false, false, false, false, false, false] rfl rfl HT_.out ?_
            refine puZ 3 (some 32) #[false, true, true, true, false, false, false, false, false, false, false] rfl rfl HT_.out ?_
            refine take_ (i := 0) (N := some 29) (v := ?_) (a' := ?_) #[true, true, true, true, false, false, false, false, false, false, false] rfl rfl (take_ofW HT_.out HW_.out (by kernel_rfl)) (fun _ _ _ h => h) (Or.inl ⟨by rfl, ?_⟩) hHeld ?_ ?_
            rotate_left
            ·rintro w' ⟨s0, s1, s2, s3, s4, s5, s6⟩
             go_simp
             with_reducible rfl
            rotate_left
            ·simp only [Act.put, List.setIfInBounds_toArray, List.set_cons_zero, List.set_cons_succ, i64_w, i32_w]
             rfl
            refine take_ (i := 4) (N := some 33) (v := ?_) (a' := ?_) #[true, true, true, true, true, false, false, false, false, false, false] rfl rfl (take_ofW HT_.out HW_.out (by kernel_rfl)) (fun _ _ _ h => h) (Or.inl ⟨by rfl, ?_⟩) hHeld ?_ ?_
            rotate_left
            ·rintro w' ⟨s0, s1, s2, s3, s4, s5, s6⟩
             go_simp
             with_reducible rfl
            rotate_left
            ·simp only [Act.put, List.setIfInBounds_toArray, List.set_cons_zero, List.set_cons_succ, i64_w, i32_w]
             rfl
            refine one_ (i := 5) (N := some 34) #[true, true, true, true, true, true, false, false, false, false, false] rfl rfl (one_of HT_.out (by kernel_rfl)) (by decide) (fun K hK => ?_)
            refine goes_ Try.func44 (by kernel_rfl) rfl #[.agg #[.string ((rd_T59 l0_1 x23_2).f0), .int .i64 ((rd_T59 l0_1 x23_2).f1), .int .i64 ((rd_T59 l0_1 x23_2).f2), .int .i64 ((rd_T59 l0_1 x23_2).f3), .int .i64 ((rd_T59 l0_1 x23_2).f4), .int .i64 ((rd_T59 l0_1 x23_2).f5)], .int .i64 (rd x6_2 x7_1)] (by rfl) rfl rfl gZ ?_
            with_reducible refine (impl_Pipe_other.calls ((rd_T59 l0_1 x23_2).f0) ((rd_T59 l0_1 x23_2).f1) ((rd_T59 l0_1 x23_2).f2) ((rd_T59 l0_1 x23_2).f3) ((rd_T59 l0_1 x23_2).f4) ((rd_T59 l0_1 x23_2).f5) (rd x6_2 x7_1) t314 false _ A14.out).mono ?_
            rintro e w44 ⟨rfl, hb⟩
            have HS6_ := (hb.cell (World.block_lt_of_cell? _ _ (hHeld.2.2.2.2.2.2))).trans (hHeld.2.2.2.2.2.2)
            refine ⟨_, rfl, ?_⟩
            have n0_ := Aside0.mk (Kd.R_below (Kd.rZ HO_5.out) hb)
            have n1_ := Aside0.mk (Kd.R_below (Kd.rZ HO_6.out) hb)
            have n2_ := Aside0.mk (blk_below (g := gb307) (o := .cells #[.slice A0_0 l0_0.length c0_0, .slice (some ad311) l0_1.length c0_1] 31 (0, 0)) (kZ BK307.out) hb)
            have n3_ := Aside0.mk (blk_below (g := gb312) (o := .cells #[.string ((rd_T59 l0_1 x23_2).f0), .int .i64 ((rd_T59 l0_1 x23_2).f1), .int .i64 ((rd_T59 l0_1 x23_2).f2), .int .i64 ((rd_T59 l0_1 x23_2).f3), .int .i64 ((rd_T59 l0_1 x23_2).f4), .int .i64 ((rd_T59 l0_1 x23_2).f5)] 59 (0, 0)) (kZ BK312.out) hb)
            have n4_ := Aside0.mk (below_step bZ hb)
            clear HO_5; clear HO_6; clear BK307; clear BK312; clear HB
            have HO_5 := n0_
            have HO_6 := n1_
            have BK307 := n2_
            have BK312 := n3_
            have HB := n4_
            clear n0_ n1_ n2_ n3_ n4_
            (try clear hb)
            (try clear hb2)
            (try clear hk)
            (try clear hi)
            refine hK.out _ _ ⟨(blk_cell BK312.out 0).trans rfl, (blk_cell BK312.out 1).trans rfl, (blk_cell BK312.out 2).trans rfl, (blk_cell BK312.out 3).trans rfl, (blk_cell BK312.out 4).trans rfl, (blk_cell BK312.out 5).trans rfl, HS6_⟩ (fun hHeld => ?_)
            clear hK K
            refine norm_ (a' := ?_) ?_ ?_
            rotate_left
            ·show Act.put _ (some 34) _ = _
             simp only [Act.put, List.setIfInBounds_toArray, List.set_cons_zero, List.set_cons_succ, i64_w, i32_w]
             rfl
            refine puZ 6 (some 28) #[true, true, true, true, true, true, true, false, false, false, false] rfl rfl HT_.out ?_
            refine puZ 7 (some 35) #[true, true, true, true, true, true, true, true, false, false, false] rfl rfl HT_.out ?_
            refine puZ 8 (some 36) #[true, true, true, true, true, true, true, true, true, false, false] rfl rfl HT_.out ?_
            refine puZ 9 (some 10) #[true, true, true, true, true, true, true, true, true, true, false] rfl rfl HT_.out ?_
            refine puZ 10 (some 11) #[true, true, true, true, true, true, true, true, true, true, true] rfl rfl HT_.out ?_
            refine done_ (done_of HT_.out (by kernel_rfl)) ?_
            try go_wp2
            go_roundg k2
            case measure => have := HK1.out; have := HK2.out; omega
            case rel => exact ⟨(x5_2), (x6_2), (wrap64 (x23_2 + 1)), sZ, H', ⟨by have := HK1.out; have := HK2.out; omega⟩, ⟨Kd.rZ HO_5.out⟩, ⟨Kd.rZ HO_6.out⟩, ⟨kZ BK307.out⟩, ⟨bZ⟩⟩
          ·rw [if_neg c13] at H
           exact absurd H (by simp)
         ·rw [if_neg c12] at H
          exact absurd H (by simp)
        ·rw [if_neg c11] at H
         exact absurd H (by simp)
       ·rw [if_neg c10] at H
        exact absurd H (by simp)
      ·rw [if_neg c9] at H
       have c9b0 : decide (x23_2 < (l0_1.length : Int)) = false := decide_eq_false c9
       clear c9
       have H' := Aside0.mk H
       clear H
       go_wp2
       go_roundg k2
       case measure => have := HK1.out; have := HK2.out; omega
       case rel => exact ⟨(x5_2), (x6_2), (wrap64 (x7_1 + 1)), sZ, H', ⟨by have := HK1.out; have := HK2.out; omega⟩, ⟨Kd.rZ HO_5.out⟩, ⟨Kd.rZ HO_6.out⟩, ⟨kZ BK307.out⟩, ⟨bZ⟩⟩
   ·rw [if_neg c6] at H
    have c6b0 : decide (x7_1 < (x6_1.length : Int)) = false := decide_eq_false c6
    clear c6
    obtain rfl := Option.some.inj H
    obtain ⟨Ao45, co45, eo45⟩ := Kd.R_slice HO_6.out
    subst eo45
    go_wp2
    go_ret
    exact ⟨_, eZ, Kd.rZ HO_5.out, bZ⟩
end Go.Proofs.Ythnhchpgpnaamaa.XG
end

section
namespace Go.Proofs.Ythnhchpgpnaamaa.XG
open Go.RowKit Go.Proofs.YthnhchpgpnaamaaW.PrintWords Go.Proofs.YthnhchpgpnaamaaW.PrintLast Go.Proofs.YthnhchpgpnaamaaW.PrintMore
attribute [local go_sem] run_eql_slice_nil binOp_string_gtr' binOp_string_leq' binOp_string_geq' max2_int min2_int max_two min_two max_three min_three max_four min_four   -- for this text's walks alone
set_option linter.unusedVariables false
set_option linter.unusedSimpArgs false
def impl_way_along.f (a0_0 : Int) (a0_1 : Int) (a0_2 : Int) (l1_0 : List Int) (l1_1 : List (S59)) (l2 : List Int) : Option (Int) := if 0 ≤ a0_2 then (if a0_2 < (l1_1.length : Int) then (if ((rd_T59 l1_1 a0_2).f2) = a0_0 then (if a0_2 < (l2.length : Int) then (some (rd l2 a0_2)) else (none)) else (if a0_2 < (l2.length : Int) then (some (wrap64 (-(rd l2 a0_2)))) else (none))) else (none)) else (none)
set_option maxHeartbeats 8000000 in
set_option maxRecDepth 100000 in
theorem impl_way_along.calls (a0_0 : Int) (a0_1 : Int) (a0_2 : Int) (A1_0 : Option Addr) (c1_0 : Nat) (l1_0 : List Int) (A1_1 : Option Addr) (c1_1 : Nat) (l1_1 : List (S59)) (A2 : Option Addr) (c2 : Nat) (l2 : List Int) (r : Int) (w : World) (hr1_0 : Kd.C (Kd.int .i64) w A1_0 l1_0.length l1_0) (hc1_0 : l1_0.length ≤ c1_0) (hr1_1 : Kd.C k59 w A1_1 l1_1.length l1_1) (hc1_1 : l1_1.length ≤ c1_1) (hr2 : Kd.C (Kd.int .i64) w A2 l2.length l2) (hc2 : l2.length ≤ c2) (h : impl_way_along.f a0_0 a0_1 a0_2 l1_0 l1_1 l2 = some r) :
  Calls Try.prog 26 #[.agg #[.int .i64 a0_0, .int .i64 a0_1, .int .i64 a0_2], .agg #[.slice A1_0 l1_0.length c1_0, .slice A1_1 l1_1.length c1_1], .slice A2 l2.length c2] w fun e w' => e = .returned (.int .i64 r) ∧ Below w.heap.size w w' := by
 have hu56 := Try.underlying56
 have hu31 := Try.underlying31
 have HR1_0 := Aside0.mk hr1_0
 have HC1_0 := Aside0.mk hc1_0
 clear hr1_0 hc1_0
 have HR1_1 := Aside0.mk hr1_1
 have HC1_1 := Aside0.mk hc1_1
 clear hr1_1 hc1_1
 have HR2 := Aside0.mk hr2
 have HC2 := Aside0.mk hc2
 clear hr2 hc2
 have HB := Aside0.mk (Below.refl w.heap.size w)
 have H : (if 0 ≤ a0_2 then (if a0_2 < (l1_1.length : Int) then (if ((rd_T59 l1_1 a0_2).f2) = a0_0 then (if a0_2 < (l2.length : Int) then (some (rd l2 a0_2)) else (none)) else (if a0_2 < (l2.length : Int) then (some (wrap64 (-(rd l2 a0_2)))) else (none))) else (none)) else (none)) = some r := h
 clear h
 by_cases c4 : 0 ≤ a0_2
 ·rw [if_pos c4] at H
  have c4b0 : decide (0 ≤ a0_2) = true := decide_eq_true c4
  clear c4
  by_cases c5 : a0_2 < (l1_1.length : Int)
  ·rw [if_pos c5] at H
   have c5b0 : decide (a0_2 < (l1_1.length : Int)) = true := decide_eq_true c5
   clear c5
   by_cases c6 : ((rd_T59 l1_1 a0_2).f2) = a0_0
   ·rw [if_pos c6] at H
    have c6b0 : (((rd_T59 l1_1 a0_2).f2) == a0_0) = true := beq_iff_eq.mpr c6
    have c6b1 : (((rd_T59 l1_1 a0_2).f2) != a0_0) = false := bne_eq_false_iff_eq.mpr c6
    clear c6
    by_cases c7 : a0_2 < (l2.length : Int)
    ·rw [if_pos c7] at H
     have c7b0 : decide (a0_2 < (l2.length : Int)) = true := decide_eq_true c7
     clear c7
     obtain rfl := Option.some.inj H
     go_enter Try.func26, Try.ntmps26
     iterate 5 (go_wp2_with (first | ((with_reducible refine gate_dst (N := 3) rfl ?_); refine boxZ 3 #[.int .i64 a0_0, .int .i64 a0_1, .int .i64 a0_2] 56 rfl rfl ?_; intro gb324 hg w8 hbox hb; have n0_ := Aside0.mk (below_step bZ hb); have n1_ := Aside0.mk (hbox); have n2_ := Aside0.mk ((by rw [hg]; exact bsZ : w.heap.size ≤ gb324)); have n3_ := Aside0.mk ((by rw [hg]; exact bsZ : w.heap.size ≤ gb324)); clear HB; have HB := n0_; have BK324 := n1_; have GW324 := n2_; have GE324 := n3_; clear n0_ n1_ n2_ n3_; clear hb hbox hg) | ((with_reducible refine gate_dst (N := 4) rfl ?_); refine boxZ 4 #[.slice A1_0 l1_0.length c1_0, .slice A1_1 l1_1.length c1_1] 31 rfl rfl ?_; intro gb325 hg w9 hbox hb; have n0_ := Aside0.mk (blk_below (g := gb324) (o := .cells #[.int .i64 a0_0, .int .i64 a0_1, .int .i64 a0_2] 56 (0, 0)) (kZ BK324.out) hb); have n1_ := Aside0.mk (below_step bZ hb); have n2_ := Aside0.mk (hbox); have n3_ := Aside0.mk ((by rw [hg]; exact bsZ : w.heap.size ≤ gb325)); have n4_ := Aside0.mk ((by rw [hg]; exact bsZ : w.heap.size ≤ gb325)); have n5_ := Aside0.mk ((by rw [hg]; exact Nat.ne_of_lt (blk_lt (g := gb324) (o := .cells #[.int .i64 a0_0, .int .i64 a0_1, .int .i64 a0_2] 56 (0, 0)) (kZ BK324.out)) : gb324 ≠ gb325)); have n6_ := Aside0.mk ((by rw [hg]; exact Nat.ne_of_gt (blk_lt (g := gb324) (o := .cells #[.int .i64 a0_0, .int .i64 a0_1, .int .i64 a0_2] 56 (0, 0)) (kZ BK324.out)) : gb325 ≠ gb324)); clear BK324; clear HB; have BK324 := n0_; have HB := n1_; have BK325 := n2_; have GW325 := n3_; have GE325 := n4_; have NB324_325 := n5_; have NB325_324 := n6_; clear n0_ n1_ n2_ n3_ n4_ n5_ n6_; clear hb hbox hg; have hnb10 := NB325_324.out; have hnc10 := NB324_325.out; have hcz11_0 := bc0 BK325.out; have hcz11_1 := bc1 BK325.out; have hfz11_0 := blk_frozen BK325.out 0; have hfz11_1 := blk_frozen BK325.out 1; have hcz12_0 := bc0 BK324.out; have hcz12_1 := bc1 BK324.out; have hcz12_2 := bc2 BK324.out; have hfz12_0 := blk_frozen BK324.out 0; have hfz12_1 := blk_frozen BK324.out 1; have hfz12_2 := blk_frozen BK324.out 2; have p326 : 0 ≤ (a0_2 : Int) := oZ; have q326 : a0_2 < (l1_1.length : Int) := oZ; obtain ⟨ad326, e326, hx326_0, hx326_1, hx326_2, hx326_3, hx326_4, hx326_5⟩ := at_T59 HR1_1.out a0_2 p326 q326; cases e326; replace hx326_0 := (HB.out.cell (World.block_lt_of_cell? w _ hx326_0)).trans hx326_0; replace hx326_1 := (HB.out.cell (World.block_lt_of_cell? w _ hx326_1)).trans hx326_1; replace hx326_2 := (HB.out.cell (World.block_lt_of_cell? w _ hx326_2)).trans hx326_2; replace hx326_3 := (HB.out.cell (World.block_lt_of_cell? w _ hx326_3)).trans hx326_3; replace hx326_4 := (HB.out.cell (World.block_lt_of_cell? w _ hx326_4)).trans hx326_4; replace hx326_5 := (HB.out.cell (World.block_lt_of_cell? w _ hx326_5)).trans hx326_5; replace p326 := eq_true p326; replace q326 := eq_true q326; have p327 : 0 ≤ (a0_2 : Int) := oZ; have q327 : a0_2 < (l2.length : Int) := oZ; obtain ⟨ad327, e327, hx327_0⟩ := Kd.at_int HR2.out a0_2 p327 q327; cases e327; replace hx327_0 := (HB.out.cell (World.block_lt_of_cell? w _ hx327_0)).trans hx327_0; replace p327 := eq_true p327; replace q327 := eq_true q327)); try go_quiet (fail))
     go_ret
     exact ⟨eZ, bZ⟩
    ·rw [if_neg c7] at H
     exact absurd H (by simp)
   ·rw [if_neg c6] at H
    have c6b0 : (((rd_T59 l1_1 a0_2).f2) == a0_0) = false := beq_eq_false_iff_ne.mpr c6
    have c6b1 : (((rd_T59 l1_1 a0_2).f2) != a0_0) = true := bne_iff_ne.mpr c6
    by_cases c13 : a0_2 < (l2.length : Int)
    ·rw [if_pos c13] at H
     have c13b0 : decide (a0_2 < (l2.length : Int)) = true := decide_eq_true c13
     clear c13
     obtain rfl := Option.some.inj H
     go_enter Try.func26, Try.ntmps26
     iterate 5 (go_wp2_with (first | ((with_reducible refine gate_dst (N := 3) rfl ?_); refine boxZ 3 #[.int .i64 a0_0, .int .i64 a0_1, .int .i64 a0_2] 56 rfl rfl ?_; intro gb324 hg w14 hbox hb; have n0_ := Aside0.mk (below_step bZ hb); have n1_ := Aside0.mk (hbox); have n2_ := Aside0.mk ((by rw [hg]; exact bsZ : w.heap.size ≤ gb324)); have n3_ := Aside0.mk ((by rw [hg]; exact bsZ : w.heap.size ≤ gb324)); clear HB; have HB := n0_; have BK324 := n1_; have GW324 := n2_; have GE324 := n3_; clear n0_ n1_ n2_ n3_; clear hb hbox hg) | ((with_reducible refine gate_dst (N := 4) rfl ?_); refine boxZ 4 #[.slice A1_0 l1_0.length c1_0, .slice A1_1 l1_1.length c1_1] 31 rfl rfl ?_; intro gb325 hg w15 hbox hb; have n0_ := Aside0.mk (blk_below (g := gb324) (o := .cells #[.int .i64 a0_0, .int .i64 a0_1, .int .i64 a0_2] 56 (0, 0)) (kZ BK324.out) hb); have n1_ := Aside0.mk (below_step bZ hb); have n2_ := Aside0.mk (hbox); have n3_ := Aside0.mk ((by rw [hg]; exact bsZ : w.heap.size ≤ gb325)); have n4_ := Aside0.mk ((by rw [hg]; exact bsZ : w.heap.size ≤ gb325)); have n5_ := Aside0.mk ((by rw [hg]; exact Nat.ne_of_lt (blk_lt (g := gb324) (o := .cells #[.int .i64 a0_0, .int .i64 a0_1, .int .i64 a0_2] 56 (0, 0)) (kZ BK324.out)) : gb324 ≠ gb325)); have n6_ := Aside0.mk ((by rw [hg]; exact Nat.ne_of_gt (blk_lt (g := gb324) (o := .cells #[.int .i64 a0_0, .int .i64 a0_1, .int .i64 a0_2] 56 (0, 0)) (kZ BK324.out)) : gb325 ≠ gb324)); clear BK324; clear HB; have BK324 := n0_; have HB := n1_; have BK325 := n2_; have GW325 := n3_; have GE325 := n4_; have NB324_325 := n5_; have NB325_324 := n6_; clear n0_ n1_ n2_ n3_ n4_ n5_ n6_; clear hb hbox hg; have hnb16 := NB325_324.out; have hnc16 := NB324_325.out; have hcz17_0 := bc0 BK325.out; have hcz17_1 := bc1 BK325.out; have hfz17_0 := blk_frozen BK325.out 0; have hfz17_1 := blk_frozen BK325.out 1; have hcz18_0 := bc0 BK324.out; have hcz18_1 := bc1 BK324.out; have hcz18_2 := bc2 BK324.out; have hfz18_0 := blk_frozen BK324.out 0; have hfz18_1 := blk_frozen BK324.out 1; have hfz18_2 := blk_frozen BK324.out 2; have p326 : 0 ≤ (a0_2 : Int) := oZ; have q326 : a0_2 < (l1_1.length : Int) := oZ; obtain ⟨ad326, e326, hx326_0, hx326_1, hx326_2, hx326_3, hx326_4, hx326_5⟩ := at_T59 HR1_1.out a0_2 p326 q326; cases e326; replace hx326_0 := (HB.out.cell (World.block_lt_of_cell? w _ hx326_0)).trans hx326_0; replace hx326_1 := (HB.out.cell (World.block_lt_of_cell? w _ hx326_1)).trans hx326_1; replace hx326_2 := (HB.out.cell (World.block_lt_of_cell? w _ hx326_2)).trans hx326_2; replace hx326_3 := (HB.out.cell (World.block_lt_of_cell? w _ hx326_3)).trans hx326_3; replace hx326_4 := (HB.out.cell (World.block_lt_of_cell? w _ hx326_4)).trans hx326_4; replace hx326_5 := (HB.out.cell (World.block_lt_of_cell? w _ hx326_5)).trans hx326_5; replace p326 := eq_true p326; replace q326 := eq_true q326; have p328 : 0 ≤ (a0_2 : Int) := oZ; have q328 : a0_2 < (l2.length : Int) := oZ; obtain ⟨ad328, e328, hx328_0⟩ := Kd.at_int HR2.out a0_2 p328 q328; cases e328; replace hx328_0 := (HB.out.cell (World.block_lt_of_cell? w _ hx328_0)).trans hx328_0; replace p328 := eq_true p328; replace q328 := eq_true q328)); try go_quiet (fail))
     go_ret
     exact ⟨eZ, bZ⟩
    ·rw [if_neg c13] at H
     exact absurd H (by simp)
  ·rw [if_neg c5] at H
   exact absurd H (by simp)
 ·rw [if_neg c4] at H
  exact absurd H (by simp)
def impl_divUp.f (a0 : Int) (a1 : Int) : Option (Int) := if a1 = 0 then (none) else (some (wrap64 (Int.tdiv (wrap64 ((wrap64 (a0 + a1)) - 1)) a1)))
set_option maxHeartbeats 8000000 in
set_option maxRecDepth 100000 in
theorem impl_divUp.calls (a0 : Int) (a1 : Int) (r : Int) (w : World) (h : impl_divUp.f a0 a1 = some r) :
  Calls Try.prog 46 #[.int .i64 a0, .int .i64 a1] w fun e w' => e = .returned (.int .i64 r) ∧ Drawn0 w w' := by
 have H : (if a1 = 0 then (none) else (some (wrap64 (Int.tdiv (wrap64 ((wrap64 (a0 + a1)) - 1)) a1)))) = some r := h
 clear h
 by_cases c3 : a1 = 0
 ·rw [if_pos c3] at H
  exact absurd H (by simp)
 ·rw [if_neg c3] at H
  have c3b0 : (a1 == 0) = false := beq_eq_false_iff_ne.mpr c3
  have c3b1 : (a1 != 0) = true := bne_iff_ne.mpr c3
  obtain rfl := Option.some.inj H
  go_enter Try.func46, Try.ntmps46
  go_wp2
  go_ret
  exact ⟨sZ, dZ⟩
def impl_abs.f (a0 : Int) : Option (Int) := some (mx a0 (wrap64 (-a0)))
set_option maxHeartbeats 8000000 in
set_option maxRecDepth 100000 in
theorem impl_abs.calls (a0 : Int) (r : Int) (w : World) (h : impl_abs.f a0 = some r) :
  Calls Try.prog 48 #[.int .i64 a0] w fun e w' => e = .returned (.int .i64 r) ∧ Below w.heap.size w w' := by
 have HB := Aside0.mk (Below.refl w.heap.size w)
 have H : (some (mx a0 (wrap64 (-a0)))) = some r := h
 clear h
 obtain ⟨ji2, hji2⟩ : ∃ j_ : Int, (mx a0 (wrap64 (-a0))) = j_ := ⟨_, rfl⟩
 replace H : (some ji2) = some r := by first | (rw [hji2] at H; exact H) | (simp only [hji2] at H ⊢; exact H)
 have hji2_ : (if a0 < (wrap64 (-a0)) then (wrap64 (-a0)) else a0) = ji2 := hji2
 obtain rfl := Option.some.inj H
 go_enter Try.func48, Try.ntmps48
 go_wp2
 go_ret
 exact ⟨by first | rfl | (simp [errW_none, errW_some] <;> rfl) | (simp only [← hji2]; first | rfl | (simp [errW_none, errW_some] <;> rfl)) | (simp [*, errW_none, errW_some] <;> rfl), bZ⟩
end Go.Proofs.Ythnhchpgpnaamaa.XG
end

section
namespace Go.Proofs.Ythnhchpgpnaamaa.XG
open Go.RowKit Go.Proofs.YthnhchpgpnaamaaW.PrintWords Go.Proofs.YthnhchpgpnaamaaW.PrintLast Go.Proofs.YthnhchpgpnaamaaW.PrintMore
attribute [local go_sem] run_eql_slice_nil binOp_string_gtr' binOp_string_leq' binOp_string_geq' max2_int min2_int max_two min_two max_three min_three max_four min_four   -- for this text's walks alone
set_option linter.unusedVariables false
set_option linter.unusedSimpArgs false
def impl_divRound.f (a0 : Int) (a1 : Int) : Option (Int) := if a1 = 0 then (none) else ((impl_abs.f (Int.tmod a0 a1)).bind fun t329 => ((impl_abs.f a1).bind fun t330 => (if t329 ≥ (wrap64 (t330 - t329)) then (if ((decide (a0 < 0)) == (decide (a1 < 0))) = true then (some (wrap64 ((wrap64 (Int.tdiv a0 a1)) + 1))) else (some (wrap64 ((wrap64 (Int.tdiv a0 a1)) - 1)))) else (some (wrap64 (Int.tdiv a0 a1))))))
def impl_divRound.T1 : Bool × List (List Nat × List Nat) := (true, [([], []), ([], []), ([0, 1], [0, 1]), ([], []), ([], []), ([3, 4], [3, 4]), ([5], [5]), ([2, 6, 0, 1, 2], [2]), ([6, 7, 0, 1, 2, 3, 4, 5, 6, 7], [6])])
def impl_divRound.B1 : List Nat := [0, 0, 3, 0, 0, 24, 56, 127, 255]
theorem impl_divRound.tab1 : rtab .any (opsOf Try.f63 1) = impl_divRound.T1 := by kernel_rfl
theorem impl_divRound.bits1 : waitsOk impl_divRound.T1.2 impl_divRound.B1 = true := by kernel_rfl
set_option maxHeartbeats 8000000 in
set_option maxRecDepth 100000 in
theorem impl_divRound.calls (a0 : Int) (a1 : Int) (r : Int) (w : World) (h : impl_divRound.f a0 a1 = some r) :
  Calls Try.prog 63 #[.int .i64 a0, .int .i64 a1] w fun e w' => e = .returned (.int .i64 r) ∧ Below w.heap.size w w' := by
 have HB := Aside0.mk (Below.refl w.heap.size w)
 have H : (if a1 = 0 then (none) else ((impl_abs.f (Int.tmod a0 a1)).bind fun t329 => ((impl_abs.f a1).bind fun t330 => (if t329 ≥ (wrap64 (t330 - t329)) then (if ((decide (a0 < 0)) == (decide (a1 < 0))) = true then (some (wrap64 ((wrap64 (Int.tdiv a0 a1)) + 1))) else (some (wrap64 ((wrap64 (Int.tdiv a0 a1)) - 1)))) else (some (wrap64 (Int.tdiv a0 a1))))))) = some r := h
 clear h
 by_cases c3 : a1 = 0
 ·rw [if_pos c3] at H
  exact absurd H (by simp)
 ·rw [if_neg c3] at H
  have c3b0 : (a1 == 0) = false := beq_eq_false_iff_ne.mpr c3
  have c3b1 : (a1 != 0) = true := bne_iff_ne.mpr c3
  replace H := Option.bind_eq_some_iff.mp H
  obtain ⟨t329, A40, H⟩ := H
  replace H : ((impl_abs.f a1).bind fun t330 => (if t329 ≥ (wrap64 (t330 - t329)) then (if ((decide (a0 < 0)) == (decide (a1 < 0))) = true then (some (wrap64 ((wrap64 (Int.tdiv a0 a1)) + 1))) else (some (wrap64 ((wrap64 (Int.tdiv a0 a1)) - 1)))) else (some (wrap64 (Int.tdiv a0 a1))))) = some r := H
  have A4 := Aside0.mk A40
  clear A40
  replace H := Option.bind_eq_some_iff.mp H
  obtain ⟨t330, A50, H⟩ := H
  replace H : (if t329 ≥ (wrap64 (t330 - t329)) then (if ((decide (a0 < 0)) == (decide (a1 < 0))) = true then (some (wrap64 ((wrap64 (Int.tdiv a0 a1)) + 1))) else (some (wrap64 ((wrap64 (Int.tdiv a0 a1)) - 1)))) else (some (wrap64 (Int.tdiv a0 a1)))) = some r := H
  have A5 := Aside0.mk A50
  clear A50
  by_cases c6 : t329 ≥ (wrap64 (t330 - t329))
  ·rw [if_pos c6] at H
   have c6b0 : decide ((wrap64 (t330 - t329)) ≤ t329) = true := decide_eq_true c6
   clear c6
   by_cases c7 : ((decide (a0 < 0)) == (decide (a1 < 0))) = true
   ·rw [if_pos c7] at H
    have c7b0 : ((decide (a0 < 0)) == (decide (a1 < 0))) = true := c7
    (try (have c7b1 : decide ((decide (a0 < 0)) = (decide (a1 < 0))) = true := by simpa using c7))
    (try (have c7b2 : ((decide (a0 < 0)) == (decide (a1 < 0))) = true := by simpa using c7))
    clear c7
    obtain rfl := Option.some.inj H
    go_enter Try.func63, Try.ntmps63
    try go_wp2
    have n0_ := Aside0.mk (below_drew1 HB.out)
    clear HB
    have HB := n0_
    clear n0_
    refine start_ (n := 9) (S := fun w' => True) (ds := []) #[false, false, false, false, false, false, false, false, false] (by kernel_rfl) rfl rfl trivial (fun hHeld => ?_); refine with_tabW impl_divRound.tab1 impl_divRound.bits1 (fun HT_ HW_ => ?_)
    generalize w.drew = w8 at HB hHeld ⊢
    refine puZ 0 (some 7) #[true, false, false, false, false, false, false, false, false] rfl rfl HT_.out ?_
    refine puZ 1 (some 8) #[true, true, false, false, false, false, false, false, false] rfl rfl HT_.out ?_
    refine puZ 2 (some 9) #[true, true, true, false, false, false, false, false, false] rfl rfl HT_.out ?_
    refine puZ 3 (some 10) #[true, true, true, true, false, false, false, false, false] rfl rfl HT_.out ?_
    refine puZ 4 (some 11) #[true, true, true, true, true, false, false, false, false] rfl rfl HT_.out ?_
    refine puZ 5 (some 12) #[true, true, true, true, true, true, false, false, false] rfl rfl HT_.out ?_
    refine one_ (i := 6) (N := some 13) #[true, true, true, true, true, true, true, false, false] rfl rfl (one_of HT_.out (by kernel_rfl)) (by decide) (fun K hK => ?_)
    refine goes_ Try.func48 (by kernel_rfl) rfl #[.int .i64 (Int.tmod a0 a1)] (by rfl) rfl rfl gZ ?_
    with_reducible refine (impl_abs.calls (Int.tmod a0 a1) t329 _ A4.out).mono ?_
    rintro e w9 ⟨rfl, hb⟩
    refine ⟨_, rfl, ?_⟩
    have n0_ := Aside0.mk (below_step bZ hb)
    clear HB
    have HB := n0_
    clear n0_
    (try clear hb)
    (try clear hb2)
    (try clear hk)
    (try clear hi)
    refine hK.out _ _ trivial (fun hHeld => ?_)
    clear hK K
    refine norm_ (a' := ?_) ?_ ?_
    rotate_left
    ·show Act.put _ (some 13) _ = _
     simp only [Act.put, List.setIfInBounds_toArray, List.set_cons_zero, List.set_cons_succ, i64_w, i32_w]
     rfl
    refine puZ 7 (some 5) #[true, true, true, true, true, true, true, true, false] rfl rfl HT_.out ?_
    refine puZ 8 (some 6) #[true, true, true, true, true, true, true, true, true] rfl rfl HT_.out ?_
    refine done_ (done_of HT_.out (by kernel_rfl)) ?_
    try go_wp2_with (first | ((with_reducible refine gate_callee (f := 48) rfl ?_); refine goesL_ (some 16) rfl rfl Try.func48 (by kernel_rfl) rfl #[.int .i64 a1] rfl gZ ?_; (with_reducible refine (impl_abs.calls a1 t330 _ A5.out).mono ?_); rintro e w10 ⟨rfl, hb⟩; refine ⟨_, rfl, ?_⟩; have n0_ := Aside0.mk (below_step bZ hb); clear HB; have HB := n0_; clear n0_; (try clear hb); (try clear hb2); (try clear hk); (try clear hi)))
    go_ret
    exact ⟨eZ, bZ⟩
   ·rw [if_neg c7] at H
    have c7b0 : ((decide (a0 < 0)) == (decide (a1 < 0))) = false := by simpa using c7
    (try (have c7b1 : decide ((decide (a0 < 0)) = (decide (a1 < 0))) = false := by simpa using c7))
    (try (have c7b2 : ((decide (a0 < 0)) == (decide (a1 < 0))) = false := by simpa using c7))
    (try (have c7b3 : ¬ ((decide (a0 < 0)) = (decide (a1 < 0))) := by simpa using c7))
    clear c7
    obtain rfl := Option.some.inj H
    go_enter Try.func63, Try.ntmps63
    try go_wp2
    have n0_ := Aside0.mk (below_drew1 HB.out)
    clear HB
    have HB := n0_
    clear n0_
    refine start_ (n := 9) (S := fun w' => True) (ds := []) #[false, false, false, false, false, false, false, false, false] (by kernel_rfl) rfl rfl trivial (fun hHeld => ?_); refine with_tabW impl_divRound.tab1 impl_divRound.bits1 (fun HT_ HW_ => ?_)
    generalize w.drew = w11 at HB hHeld ⊢
    refine puZ 0 (some 7) #[true, false, false, false, false, false, false, false, false] rfl rfl HT_.out ?_
    refine puZ 1 (some 8) #[true, true, false, false, false, false, false, false, false] rfl rfl HT_.out ?_
    refine puZ 2 (some 9) #[true, true, true, false, false, false, false, false, false] rfl rfl HT_.out ?_
    refine puZ 3 (some 10) #[true, true, true, true, false, false, false, false, false] rfl rfl HT_.out ?_
    refine puZ 4 (some 11) #[true, true, true, true, true, false, false, false, false] rfl rfl HT_.out ?_
    refine puZ 5 (some 12) #[true, true, true, true, true, true, false, false, false] rfl rfl HT_.out ?_
    refine one_ (i := 6) (N := some 13) #[true, true, true, true, true, true, true, false, false] rfl rfl (one_of HT_.out (by kernel_rfl)) (by decide) (fun K hK => ?_)
    refine goes_ Try.func48 (by kernel_rfl) rfl #[.int .i64 (Int.tmod a0 a1)] (by rfl) rfl rfl gZ ?_
    with_reducible refine (impl_abs.calls (Int.tmod a0 a1) t329 _ A4.out).mono ?_
    rintro e w12 ⟨rfl, hb⟩
    refine ⟨_, rfl, ?_⟩
    have n0_ := Aside0.mk (below_step bZ hb)
    clear HB
    have HB := n0_
    clear n0_
    (try clear hb)
    (try clear hb2)
    (try clear hk)
    (try clear hi)
    refine hK.out _ _ trivial (fun hHeld => ?_)
    clear hK K
    refine norm_ (a' := ?_) ?_ ?_
    rotate_left
    ·show Act.put _ (some 13) _ = _
     simp only [Act.put, List.setIfInBounds_toArray, List.set_cons_zero, List.set_cons_succ, i64_w, i32_w]
     rfl
    refine puZ 7 (some 5) #[true, true, true, true, true, true, true, true, false] rfl rfl HT_.out ?_
    refine puZ 8 (some 6) #[true, true, true, true, true, true, true, true, true] rfl rfl HT_.out ?_
    refine done_ (done_of HT_.out (by kernel_rfl)) ?_
    try go_wp2_with (first | ((with_reducible refine gate_callee (f := 48) rfl ?_); refine goesL_ (some 16) rfl rfl Try.func48 (by kernel_rfl) rfl #[.int .i64 a1] rfl gZ ?_; (with_reducible refine (impl_abs.calls a1 t330 _ A5.out).mono ?_); rintro e w13 ⟨rfl, hb⟩; refine ⟨_, rfl, ?_⟩; have n0_ := Aside0.mk (below_step bZ hb); clear HB; have HB := n0_; clear n0_; (try clear hb); (try clear hb2); (try clear hk); (try clear hi)))
    go_ret
    exact ⟨eZ, bZ⟩
  ·rw [if_neg c6] at H
   have c6b0 : decide ((wrap64 (t330 - t329)) ≤ t329) = false := decide_eq_false c6
   clear c6
   obtain rfl := Option.some.inj H
   go_enter Try.func63, Try.ntmps63
   try go_wp2
   have n0_ := Aside0.mk (below_drew1 HB.out)
   clear HB
   have HB := n0_
   clear n0_
   refine start_ (n := 9) (S := fun w' => True) (ds := []) #[false, false, false, false, false, false, false, false, false] (by kernel_rfl) rfl rfl trivial (fun hHeld => ?_); refine with_tabW impl_divRound.tab1 impl_divRound.bits1 (fun HT_ HW_ => ?_)
   generalize w.drew = w14 at HB hHeld ⊢
   refine puZ 0 (some 7) #[true, false, false, false, false, false, false, false, false] rfl rfl HT_.out ?_
   refine puZ 1 (some 8) #[true, true, false, false, false, false, false, false, false] rfl rfl HT_.out ?_
   refine puZ 2 (some 9) #[true, true, true, false, false, false, false, false, false] rfl rfl HT_.out ?_
   refine puZ 3 (some 10) #[true, true, true, true, false, false, false, false, false] rfl rfl HT_.out ?_
   refine puZ 4 (some 11) #[true, true, true, true, true, false, false, false, false] rfl rfl HT_.out ?_
   refine puZ 5 (some 12) #[true, true, true, true, true, true, false, false, false] rfl rfl HT_.out ?_
   refine one_ (i := 6) (N := some 13) #[true, true, true, true, true, true, true, false, false] rfl rfl (one_of HT_.out (by kernel_rfl)) (by decide) (fun K hK => ?_)
   refine goes_ Try.func48 (by kernel_rfl) rfl #[.int .i64 (Int.tmod a0 a1)] (by rfl) rfl rfl gZ ?_
   with_reducible refine (impl_abs.calls (Int.tmod a0 a1) t329 _ A4.out).mono ?_
   rintro e w15 ⟨rfl, hb⟩
   refine ⟨_, rfl, ?_⟩
   have n0_ := Aside0.mk (below_step bZ hb)
   clear HB
   have HB := n0_
   clear n0_
   (try clear hb)
   (try clear hb2)
   (try clear hk)
   (try clear hi)
   refine hK.out _ _ trivial (fun hHeld => ?_)
   clear hK K
   refine norm_ (a' := ?_) ?_ ?_
   rotate_left
   ·show Act.put _ (some 13) _ = _
    simp only [Act.put, List.setIfInBounds_toArray, List.set_cons_zero, List.set_cons_succ, i64_w, i32_w]
    rfl
   refine puZ 7 (some 5) #[true, true, true, true, true, true, true, true, false] rfl rfl HT_.out ?_
   refine puZ 8 (some 6) #[true, true, true, true, true, true, true, true, true] rfl rfl HT_.out ?_
   refine done_ (done_of HT_.out (by kernel_rfl)) ?_
   try go_wp2_with (first | ((with_reducible refine gate_callee (f := 48) rfl ?_); refine goesL_ (some 16) rfl rfl Try.func48 (by kernel_rfl) rfl #[.int .i64 a1] rfl gZ ?_; (with_reducible refine (impl_abs.calls a1 t330 _ A5.out).mono ?_); rintro e w16 ⟨rfl, hb⟩; refine ⟨_, rfl, ?_⟩; have n0_ := Aside0.mk (below_step bZ hb); clear HB; have HB := n0_; clear n0_; (try clear hb); (try clear hb2); (try clear hk); (try clear hi)))
   go_ret
   exact ⟨eZ, bZ⟩
end Go.Proofs.Ythnhchpgpnaamaa.XG
end

section
namespace Go.Proofs.Ythnhchpgpnaamaa.XG
open Go.RowKit Go.Proofs.YthnhchpgpnaamaaW.PrintWords Go.Proofs.YthnhchpgpnaamaaW.PrintLast Go.Proofs.YthnhchpgpnaamaaW.PrintMore
attribute [local go_sem] run_eql_slice_nil binOp_string_gtr' binOp_string_leq' binOp_string_geq' max2_int min2_int max_two min_two max_three min_three max_four min_four   -- for this text's walks alone
set_option linter.unusedVariables false
set_option linter.unusedSimpArgs false
def impl_Pipe_water.f (a0_0 : ByteArray) (a0_1 : Int) (a0_2 : Int) (a0_3 : Int) (a0_4 : Int) (a0_5 : Int) : Option (Int) := (impl_divRound.f (wrap64 ((wrap64 ((wrap64 (a0_3 * a0_4)) * a0_4)) * 7854)) 10000).bind fun t332 => (some t332)
set_option maxHeartbeats 8000000 in
set_option maxRecDepth 100000 in
theorem impl_Pipe_water.calls (a0_0 : ByteArray) (a0_1 : Int) (a0_2 : Int) (a0_3 : Int) (a0_4 : Int) (a0_5 : Int) (r : Int) (w : World) (h : impl_Pipe_water.f a0_0 a0_1 a0_2 a0_3 a0_4 a0_5 = some r) :
  Calls Try.prog 47 #[.agg #[.string a0_0, .int .i64 a0_1, .int .i64 a0_2, .int .i64 a0_3, .int .i64 a0_4, .int .i64 a0_5]] w fun e w' => e = .returned (.int .i64 r) ∧ Below w.heap.size w w' := by
 have hu59 := Try.underlying59
 have HB := Aside0.mk (Below.refl w.heap.size w)
 have H : ((impl_divRound.f (wrap64 ((wrap64 ((wrap64 (a0_3 * a0_4)) * a0_4)) * 7854)) 10000).bind fun t332 => (some t332)) = some r := h
 clear h
 replace H := Option.bind_eq_some_iff.mp H
 obtain ⟨t332, A20, H⟩ := H
 replace H : (some t332) = some r := H
 have A2 := Aside0.mk A20
 clear A20
 obtain rfl := Option.some.inj H
 go_enter Try.func47, Try.ntmps47
 go_wp2_with (first | ((with_reducible refine gate_dst (N := 1) rfl ?_); refine boxZ 1 #[.string a0_0, .int .i64 a0_1, .int .i64 a0_2, .int .i64 a0_3, .int .i64 a0_4, .int .i64 a0_5] 59 rfl rfl ?_; intro gb331 hg w3 hbox hb; have n0_ := Aside0.mk (below_step bZ hb); have n1_ := Aside0.mk (hbox); have n2_ := Aside0.mk ((by rw [hg]; exact bsZ : w.heap.size ≤ gb331)); have n3_ := Aside0.mk ((by rw [hg]; exact bsZ : w.heap.size ≤ gb331)); clear HB; have HB := n0_; have BK331 := n1_; have GW331 := n2_; have GE331 := n3_; clear n0_ n1_ n2_ n3_; clear hb hbox hg; have hcz4_0 := bc0 BK331.out; have hcz4_1 := bc1 BK331.out; have hcz4_2 := bc2 BK331.out; have hcz4_3 := bc3 BK331.out; have hcz4_4 := bc4 BK331.out; have hcz4_5 := bc5 BK331.out; have hfz4_0 := blk_frozen BK331.out 0; have hfz4_1 := blk_frozen BK331.out 1; have hfz4_2 := blk_frozen BK331.out 2; have hfz4_3 := blk_frozen BK331.out 3; have hfz4_4 := blk_frozen BK331.out 4; have hfz4_5 := blk_frozen BK331.out 5) | ((with_reducible refine gate_callee (f := 63) rfl ?_); refine goesL_ (some 12) rfl rfl Try.func63 (by kernel_rfl) rfl #[.int .i64 (wrap64 ((wrap64 ((wrap64 (a0_3 * a0_4)) * a0_4)) * 7854)), .int .i64 10000] rfl gZ ?_; (with_reducible refine (impl_divRound.calls (wrap64 ((wrap64 ((wrap64 (a0_3 * a0_4)) * a0_4)) * 7854)) 10000 t332 _ A2.out).mono ?_); rintro e w5 ⟨rfl, hb⟩; refine ⟨_, rfl, ?_⟩; have n0_ := Aside0.mk (blk_below (g := gb331) (o := .cells #[.string a0_0, .int .i64 a0_1, .int .i64 a0_2, .int .i64 a0_3, .int .i64 a0_4, .int .i64 a0_5] 59 (0, 0)) (kZ BK331.out) hb); have n1_ := Aside0.mk (below_step bZ hb); clear BK331; clear HB; have BK331 := n0_; have HB := n1_; clear n0_ n1_; (try clear hb); (try clear hb2); (try clear hk); (try clear hi)))
 go_ret
 exact ⟨eZ, bZ⟩
def impl_Pipe_delay.f (a0_0 : ByteArray) (a0_1 : Int) (a0_2 : Int) (a0_3 : Int) (a0_4 : Int) (a0_5 : Int) (a1 : Int) : Option (Int) := (impl_Pipe_water.f a0_0 a0_1 a0_2 a0_3 a0_4 a0_5).bind fun t334 => ((impl_abs.f a1).bind fun t335 => ((impl_divUp.f t334 t335).bind fun t336 => (some t336)))
set_option maxHeartbeats 8000000 in
set_option maxRecDepth 100000 in
theorem impl_Pipe_delay.calls (a0_0 : ByteArray) (a0_1 : Int) (a0_2 : Int) (a0_3 : Int) (a0_4 : Int) (a0_5 : Int) (a1 : Int) (r : Int) (w : World) (h : impl_Pipe_delay.f a0_0 a0_1 a0_2 a0_3 a0_4 a0_5 a1 = some r) :
  Calls Try.prog 27 #[.agg #[.string a0_0, .int .i64 a0_1, .int .i64 a0_2, .int .i64 a0_3, .int .i64 a0_4, .int .i64 a0_5], .int .i64 a1] w fun e w' => e = .returned (.int .i64 r) ∧ Below w.heap.size w w' := by
 have hu59 := Try.underlying59
 have HB := Aside0.mk (Below.refl w.heap.size w)
 have H : ((impl_Pipe_water.f a0_0 a0_1 a0_2 a0_3 a0_4 a0_5).bind fun t334 => ((impl_abs.f a1).bind fun t335 => ((impl_divUp.f t334 t335).bind fun t336 => (some t336)))) = some r := h
 clear h
 replace H := Option.bind_eq_some_iff.mp H
 obtain ⟨t334, A30, H⟩ := H
 replace H : ((impl_abs.f a1).bind fun t335 => ((impl_divUp.f t334 t335).bind fun t336 => (some t336))) = some r := H
 have A3 := Aside0.mk A30
 clear A30
 replace H := Option.bind_eq_some_iff.mp H
 obtain ⟨t335, A40, H⟩ := H
 replace H : ((impl_divUp.f t334 t335).bind fun t336 => (some t336)) = some r := H
 have A4 := Aside0.mk A40
 clear A40
 replace H := Option.bind_eq_some_iff.mp H
 obtain ⟨t336, A50, H⟩ := H
 replace H : (some t336) = some r := H
 have A5 := Aside0.mk A50
 clear A50
 obtain rfl := Option.some.inj H
 go_enter Try.func27, Try.ntmps27
 go_wp2_with (first | ((with_reducible refine gate_dst (N := 2) rfl ?_); refine boxZ 2 #[.string a0_0, .int .i64 a0_1, .int .i64 a0_2, .int .i64 a0_3, .int .i64 a0_4, .int .i64 a0_5] 59 rfl rfl ?_; intro gb333 hg w6 hbox hb; have n0_ := Aside0.mk (below_step bZ hb); have n1_ := Aside0.mk (hbox); have n2_ := Aside0.mk ((by rw [hg]; exact bsZ : w.heap.size ≤ gb333)); have n3_ := Aside0.mk ((by rw [hg]; exact bsZ : w.heap.size ≤ gb333)); clear HB; have HB := n0_; have BK333 := n1_; have GW333 := n2_; have GE333 := n3_; clear n0_ n1_ n2_ n3_; clear hb hbox hg; have hcz7_0 := bc0 BK333.out; have hcz7_1 := bc1 BK333.out; have hcz7_2 := bc2 BK333.out; have hcz7_3 := bc3 BK333.out; have hcz7_4 := bc4 BK333.out; have hcz7_5 := bc5 BK333.out; have hfz7_0 := blk_frozen BK333.out 0; have hfz7_1 := blk_frozen BK333.out 1; have hfz7_2 := blk_frozen BK333.out 2; have hfz7_3 := blk_frozen BK333.out 3; have hfz7_4 := blk_frozen BK333.out 4; have hfz7_5 := blk_frozen BK333.out 5) | ((with_reducible refine gate_callee (f := 47) rfl ?_); refine goesL_ (some 6) rfl rfl Try.func47 (by kernel_rfl) rfl #[.agg #[.string a0_0, .int .i64 a0_1, .int .i64 a0_2, .int .i64 a0_3, .int .i64 a0_4, .int .i64 a0_5]] rfl gZ ?_; (with_reducible refine (impl_Pipe_water.calls a0_0 a0_1 a0_2 a0_3 a0_4 a0_5 t334 _ A3.out).mono ?_); rintro e w8 ⟨rfl, hb⟩; refine ⟨_, rfl, ?_⟩; have n0_ := Aside0.mk (blk_below (g := gb333) (o := .cells #[.string a0_0, .int .i64 a0_1, .int .i64 a0_2, .int .i64 a0_3, .int .i64 a0_4, .int .i64 a0_5] 59 (0, 0)) (kZ BK333.out) hb); have n1_ := Aside0.mk (below_step bZ hb); clear BK333; clear HB; have BK333 := n0_; have HB := n1_; clear n0_ n1_; (try clear hb); (try clear hb2); (try clear hk); (try clear hi)) | ((with_reducible refine gate_callee (f := 48) rfl ?_); refine goesL_ (some 8) rfl rfl Try.func48 (by kernel_rfl) rfl #[.int .i64 a1] rfl gZ ?_; (with_reducible refine (impl_abs.calls a1 t335 _ A4.out).mono ?_); rintro e w9 ⟨rfl, hb⟩; refine ⟨_, rfl, ?_⟩; have n0_ := Aside0.mk (blk_below (g := gb333) (o := .cells #[.string a0_0, .int .i64 a0_1, .int .i64 a0_2, .int .i64 a0_3, .int .i64 a0_4, .int .i64 a0_5] 59 (0, 0)) (kZ BK333.out) hb); have n1_ := Aside0.mk (below_step bZ hb); clear BK333; clear HB; have BK333 := n0_; have HB := n1_; clear n0_ n1_; (try clear hb); (try clear hb2); (try clear hk); (try clear hi)) | ((with_reducible refine gate_callee (f := 46) rfl ?_); refine goesL_ (some 9) rfl rfl Try.func46 (by kernel_rfl) rfl #[.int .i64 t334, .int .i64 t335] rfl gZ ?_; (with_reducible refine (impl_divUp.calls t334 t335 t336 _ A5.out).mono ?_); rintro e w' ⟨rfl, ⟨nd, rfl⟩⟩; refine ⟨_, rfl, ?_⟩))
 go_ret
 exact ⟨eZ, bZ⟩
def impl_orNotFound.f (a0 : Int) (a1 : Bool) : Option (Int × Int) := if a1 = true then (some (a0, 0)) else (some (0, 3))
set_option maxHeartbeats 8000000 in
set_option maxRecDepth 100000 in
theorem impl_orNotFound.calls (a0 : Int) (a1 : Bool) (r1 : Int) (r2 : Int) (w : World) (h : impl_orNotFound.f a0 a1 = some (r1, r2)) :
  Calls Try.prog 28 #[.int .i64 a0, .bool a1] w fun e w' => e = .returned (.tuple #[.int .i64 r1, .int .i64 r2]) ∧ Drawn0 w w' := by
 have H : (if a1 = true then (some (a0, 0)) else (some (0, 3))) = some (r1, r2) := h
 clear h
 by_cases c3 : a1 = true
 ·subst c3
  have H1 : (some (a0, 0)) = some (r1, r2) := by rw [if_pos rfl] at H; exact H
  clear H
  have H := H1
  clear H1
  simp only [Option.some.injEq, Prod.mk.injEq] at H
  obtain ⟨rfl, rfl⟩ := H
  go_enter Try.func28, Try.ntmps28
  go_wp2
  go_ret2
  exact ⟨sZ, dZ⟩
 ·replace c3 := Bool.eq_false_iff.mpr c3
  subst c3
  have H1 : (some (0, 3)) = some (r1, r2) := by rw [if_neg (show ¬ (false = true) by decide)] at H; exact H
  clear H
  have H := H1
  clear H1
  simp only [Option.some.injEq, Prod.mk.injEq] at H
  obtain ⟨rfl, rfl⟩ := H
  go_enter Try.func28, Try.ntmps28
  go_wp2
  go_ret2
  exact ⟨sZ, dZ⟩
end Go.Proofs.Ythnhchpgpnaamaa.XG
end
