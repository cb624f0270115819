/- The law FnExactDelayTo: part 3 of its texts, joined (wip/pack.py). -/
import Derived.Test.YthnhchpgpnaamaaKFnExactDelayToa
import Derived.Test.YthnhchpgpnaamaaKFnExactDelayTob
import Derived.Test.YthnhchpgpnaamaaKFnExactDelayToc

section
namespace Go.Proofs.Ythnhchpgpnaamaa.XG
open Go.RowKit Go.Proofs.YthnhchpgpnaamaaW.PrintWords Go.Proofs.YthnhchpgpnaamaaW.PrintLast Go.Proofs.YthnhchpgpnaamaaW.PrintMore
attribute [local go_sem] run_eql_slice_nil binOp_string_gtr' binOp_string_leq' binOp_string_geq' max2_int min2_int max_two min_two max_three min_three max_four min_four   -- for this text's walks alone
set_option linter.unusedVariables false
set_option linter.unusedSimpArgs false
mutual
def spec_l07Order.l0 : Nat → List Int → List Int → List Bool → Int → List Int → List (S59) → Option (List Int × List Int)
 | 0, _, _, _, _, _, _ => none
 | k + 1, x6, x7, x8, x9, x1000, x1001 => if x9 < (x6.length : Int) then (spec_l07Order.l1 k x6 x7 x8 x9 0 x1000 x1001) else (some (x6, x7))
def spec_l07Order.l1 : Nat → List Int → List Int → List Bool → Int → Int → List Int → List (S59) → Option (List Int × List Int)
 | 0, _, _, _, _, _, _, _ => none
 | k + 1, x6, x7, x8, x9, x10, x1000, x1001 => if x10 < (x1001.length : Int) then (if 0 ≤ x10 then (if 0 ≤ x9 then (if x9 < (x6.length : Int) then (if ((rd_T59 x1001 x10).f1) = (rd x6 x9) then (if 0 ≤ ((rd_T59 x1001 x10).f2) then (if ((rd_T59 x1001 x10).f2) < (x8.length : Int) then (if (rdOf false x8 ((rd_T59 x1001 x10).f2) = true) then (if ((rd_T59 x1001 x10).f2) = (rd x6 x9) then (if 0 ≤ ((rd_T59 x1001 x10).f1) then (if ((rd_T59 x1001 x10).f1) < (x8.length : Int) then (if (rdOf false x8 ((rd_T59 x1001 x10).f1) = true) then (spec_l07Order.l1 k x6 x7 x8 x9 (wrap64 (x10 + 1)) x1000 x1001) else (if ((rd_T59 x1001 x10).f1) < (x7.length : Int) then (if x6.length < 17592186044416 then (spec_l07Order.l1 k (x6 ++ [(rd_T59 x1001 x10).f1]) (x7.set (((rd_T59 x1001 x10).f1) : Int).toNat (wrap64 ((wrap64 (-x10)) - 1))) (x8.set (((rd_T59 x1001 x10).f1) : Int).toNat true) x9 (wrap64 (x10 + 1)) x1000 x1001) else (none)) else (none))) else (none)) else (none)) else (spec_l07Order.l1 k x6 x7 x8 x9 (wrap64 (x10 + 1)) x1000 x1001)) else ((some (x8.set (((rd_T59 x1001 x10).f2) : Int).toNat true : List Bool)).bind fun y183 => (if ((rd_T59 x1001 x10).f2) < (x7.length : Int) then ((some (x7.set (((rd_T59 x1001 x10).f2) : Int).toNat (wrap64 (x10 + 1)) : List Int)).bind fun y185 => (if x6.length < 17592186044416 then ((some (x6 ++ [(rd_T59 x1001 x10).f2] : List Int)).bind fun y187 => (if x9 < (y187.length : Int) then (if ((rd_T59 x1001 x10).f2) = (rd y187 x9) then (if 0 ≤ ((rd_T59 x1001 x10).f1) then (if ((rd_T59 x1001 x10).f1) < (x8.length : Int) then (if (rdOf false y183 ((rd_T59 x1001 x10).f1) = true) then (spec_l07Order.l1 k y187 y185 y183 x9 (wrap64 (x10 + 1)) x1000 x1001) else (if ((rd_T59 x1001 x10).f1) < (x7.length : Int) then (if y187.length < 17592186044416 then (spec_l07Order.l1 k (y187 ++ [(rd_T59 x1001 x10).f1]) (y185.set (((rd_T59 x1001 x10).f1) : Int).toNat (wrap64 ((wrap64 (-x10)) - 1))) (y183.set (((rd_T59 x1001 x10).f1) : Int).toNat true) x9 (wrap64 (x10 + 1)) x1000 x1001) else (none)) else (none))) else (none)) else (none)) else (spec_l07Order.l1 k y187 y185 y183 x9 (wrap64 (x10 + 1)) x1000 x1001)) else (none))) else (none))) else (none)))) else (none)) else (none)) else (if ((rd_T59 x1001 x10).f2) = (rd x6 x9) then (if 0 ≤ ((rd_T59 x1001 x10).f1) then (if ((rd_T59 x1001 x10).f1) < (x8.length : Int) then (if (rdOf false x8 ((rd_T59 x1001 x10).f1) = true) then (spec_l07Order.l1 k x6 x7 x8 x9 (wrap64 (x10 + 1)) x1000 x1001) else (if ((rd_T59 x1001 x10).f1) < (x7.length : Int) then (if x6.length < 17592186044416 then (spec_l07Order.l1 k (x6 ++ [(rd_T59 x1001 x10).f1]) (x7.set (((rd_T59 x1001 x10).f1) : Int).toNat (wrap64 ((wrap64 (-x10)) - 1))) (x8.set (((rd_T59 x1001 x10).f1) : Int).toNat true) x9 (wrap64 (x10 + 1)) x1000 x1001) else (none)) else (none))) else (none)) else (none)) else (spec_l07Order.l1 k x6 x7 x8 x9 (wrap64 (x10 + 1)) x1000 x1001))) else (none)) else (none)) else (none)) else (spec_l07Order.l0 k x6 x7 x8 (wrap64 (x9 + 1)) x1000 x1001)
end
def spec_l07Order.f (k : Nat) (l0_0 : List Int) (l0_1 : List (S59)) (a1 : Int) : Option (List Int × List Int) := if 0 ≤ (l0_0.length : Int) then (if ((l0_0.length : Int) : Int).toNat ≤ 35184372088832 then (if ((l0_0.length : Int) : Int).toNat ≤ 281474976710656 then ((some (List.replicate ((l0_0.length : Int) : Int).toNat false : List Bool)).bind fun y161 => (if 0 ≤ a1 then (if a1 < (y161.length : Int) then (spec_l07Order.l0 k (([a1] : List Int)) (List.replicate ((l0_0.length : Int) : Int).toNat 0) (y161.set (a1 : Int).toNat true) 0 l0_0 l0_1) else (none)) else (none))) else (none)) else (none)) else (none)
set_option maxHeartbeats 8000000 in
set_option maxRecDepth 100000 in
theorem spec_l07Order.calls (k : Nat) (v0 : Addr) (A0_0 : Option Addr) (c0_0 : Nat) (l0_0 : List Int) (A0_1 : Option Addr) (c0_1 : Nat) (l0_1 : List (S59)) (a1 : Int) (r1 : List Int) (r2 : List Int) (w : World) (hr0_0 : Kd.C (Kd.int .i64) w A0_0 l0_0.length l0_0) (hc0_0 : l0_0.length ≤ c0_0) (hr0_1 : Kd.C k59 w A0_1 l0_1.length l0_1) (hc0_1 : l0_1.length ≤ c0_1) (hv0 : ViewAt w v0 [.slice A0_0 l0_0.length c0_0, .slice A0_1 l0_1.length c0_1]) (h : spec_l07Order.f k l0_0 l0_1 a1 = some (r1, r2)) :
  Calls Try.prog 16 #[.pointer (some v0), .int .i64 a1] w fun e w' => ∃ v0_ v1_ : Value, e = .returned (.tuple #[v0_, v1_]) ∧ Kd.R (Kd.int .i64) 2 w' w.heap.size (fun k_ => some k_ ≠ (v1_ : Value).ownBlock) v0_ r1 ∧ Kd.R (Kd.int .i64) 2 w' w.heap.size (fun k_ => some k_ ≠ (v0_ : Value).ownBlock) v1_ r2 ∧ Below w.heap.size w w' := by
 have HR0_0 := Aside0.mk hr0_0
 have HC0_0 := Aside0.mk hc0_0
 clear hr0_0 hc0_0
 have HR0_1 := Aside0.mk hr0_1
 have HC0_1 := Aside0.mk hc0_1
 clear hr0_1 hc0_1
 have HB := Aside0.mk (Below.refl w.heap.size w)
 have HV0 := Aside0.mk hv0
 have hvw0_0 : w.cell? v0 = some (.slice A0_0 l0_0.length c0_0) := hv0.at0
 have hvw0_1 : w.cell? ⟨v0.block, v0.off + 1, none⟩ = some (.slice A0_1 l0_1.length c0_1) := hv0.at_ 1 (by decide) rfl
 clear hv0
 have H : (if 0 ≤ (l0_0.length : Int) then (if ((l0_0.length : Int) : Int).toNat ≤ 35184372088832 then (if ((l0_0.length : Int) : Int).toNat ≤ 281474976710656 then ((some (List.replicate ((l0_0.length : Int) : Int).toNat false : List Bool)).bind fun y161 => (if 0 ≤ a1 then (if a1 < (y161.length : Int) then (spec_l07Order.l0 k (([a1] : List Int)) (List.replicate ((l0_0.length : Int) : Int).toNat 0) (y161.set (a1 : Int).toNat true) 0 l0_0 l0_1) else (none)) else (none))) else (none)) else (none)) else (none)) = some (r1, r2) := h
 clear h
 obtain ⟨y155, hy155⟩ : ∃ y_ : List Int, y_ = (([a1] : List Int)) := ⟨_, rfl⟩
 replace H : (if 0 ≤ (l0_0.length : Int) then (if ((l0_0.length : Int) : Int).toNat ≤ 35184372088832 then (if ((l0_0.length : Int) : Int).toNat ≤ 281474976710656 then ((some (List.replicate ((l0_0.length : Int) : Int).toNat false : List Bool)).bind fun y161 => (if 0 ≤ a1 then (if a1 < (y161.length : Int) then (spec_l07Order.l0 k y155 (List.replicate ((l0_0.length : Int) : Int).toNat 0) (y161.set (a1 : Int).toNat true) 0 l0_0 l0_1) else (none)) else (none))) else (none)) else (none)) else (none)) = some (r1, r2) := by first | (rw [hy155]; with_reducible exact H) | (have H2_ := (Option.bind_some _ _).symm.trans H; rw [hy155]; with_reducible exact H2_) | (have H2_ := (Option.bind_some _ _).symm.trans H; with_reducible exact H2_) | with_reducible exact H | (rw [hy155]; exact H) | exact H
 have Ny155 := Aside0.mk hy155
 clear hy155
 by_cases c3 : 0 ≤ (l0_0.length : Int)
 ·rw [if_pos c3] at H
  have c3b0 := eq_true c3
  have c3b1 : decide (0 ≤ (l0_0.length : Int)) = true := decide_eq_true c3
  clear c3
  by_cases c4 : ((l0_0.length : Int) : Int).toNat ≤ 35184372088832
  ·rw [if_pos c4] at H
   have c4b0 := eq_true c4
   have c4b1 : decide (((l0_0.length : Int) : Int).toNat ≤ 35184372088832) = true := decide_eq_true c4
   clear c4
   obtain ⟨y158, hy158⟩ : ∃ y_ : List Int, y_ = (List.replicate ((l0_0.length : Int) : Int).toNat 0) := ⟨_, rfl⟩
   replace H : (if ((l0_0.length : Int) : Int).toNat ≤ 281474976710656 then ((some (List.replicate ((l0_0.length : Int) : Int).toNat false : List Bool)).bind fun y161 => (if 0 ≤ a1 then (if a1 < (y161.length : Int) then (spec_l07Order.l0 k y155 y158 (y161.set (a1 : Int).toNat true) 0 l0_0 l0_1) else (none)) else (none))) else (none)) = some (r1, r2) := by first | (rw [hy158]; with_reducible exact H) | (have H2_ := (Option.bind_some _ _).symm.trans H; rw [hy158]; with_reducible exact H2_) | (have H2_ := (Option.bind_some _ _).symm.trans H; with_reducible exact H2_) | with_reducible exact H | (rw [hy158]; exact H) | exact H
   have Ny158 := Aside0.mk hy158
   clear hy158
   by_cases c5 : ((l0_0.length : Int) : Int).toNat ≤ 281474976710656
   ·rw [if_pos c5] at H
    have c5b0 := eq_true c5
    have c5b1 : decide (((l0_0.length : Int) : Int).toNat ≤ 281474976710656) = true := decide_eq_true c5
    clear c5
    obtain ⟨y161, hy161⟩ : ∃ y_ : List Bool, y_ = (List.replicate ((l0_0.length : Int) : Int).toNat false) := ⟨_, rfl⟩
    replace H : (if 0 ≤ a1 then (if a1 < (y161.length : Int) then (spec_l07Order.l0 k y155 y158 (y161.set (a1 : Int).toNat true) 0 l0_0 l0_1) else (none)) else (none)) = some (r1, r2) := by first | (rw [hy161]; with_reducible exact H) | (have H2_ := (Option.bind_some _ _).symm.trans H; rw [hy161]; with_reducible exact H2_) | (have H2_ := (Option.bind_some _ _).symm.trans H; with_reducible exact H2_) | with_reducible exact H | (rw [hy161]; exact H) | exact H
    have Ny161 := Aside0.mk hy161
    clear hy161
    by_cases c6 : 0 ≤ a1
    ·rw [if_pos c6] at H
     have c6b0 : decide (0 ≤ a1) = true := decide_eq_true c6
     clear c6
     by_cases c7 : a1 < (y161.length : Int)
     ·rw [if_pos c7] at H
      have c7b0 : decide (a1 < (y161.length : Int)) = true := decide_eq_true c7
      clear c7
      obtain ⟨y164, hy164⟩ : ∃ y_ : List Bool, y_ = (y161.set (a1 : Int).toNat true) := ⟨_, rfl⟩
      replace H : (spec_l07Order.l0 k y155 y158 y164 0 l0_0 l0_1) = some (r1, r2) := by first | (rw [hy164]; with_reducible exact H) | (have H2_ := (Option.bind_some _ _).symm.trans H; rw [hy164]; with_reducible exact H2_) | (have H2_ := (Option.bind_some _ _).symm.trans H; with_reducible exact H2_) | with_reducible exact H | (rw [hy164]; exact H) | exact H
      have Ny164 := Aside0.mk hy164
      clear hy164
      have H' := Aside0.mk H
      clear H
      go_enter Try.func16, Try.ntmps16
      iterate 5 (go_wp2_with (first | ((with_reducible refine gate_dst (N := 13) rfl ?_); refine Kd.R_lit (Kd.int .i64) _ 2 ?hg (N := 13) ?hd (xs := ([a1] : List Int)) (inner := [.int .i64 a1]) (ok := fun _ => True) (okp := fun _ => True) ?hr ?hp (fun _ hk => hk) trivial (Below.refl _ _) (Nat.le_refl _) (by simp) ?_; (case hd => rfl); (case hg => rfl); (case hr => first | (go_simp; done) | (go_simp; rfl)); (case hp => exact (Reps.one (show Kd.M (Kd.int .i64) _ _ _ a1 [.int .i64 a1] from rfl) (Reps.none _ _))); intro v156 w9 ho10 hb hg_ hnew_; clear hg_ hnew_; (first | rw [← Ny155.out] at ho10 | (simp only [Int.reduceToNat] at ho10; rw [← Ny155.out] at ho10)); have n0_ := Aside0.mk (Kd.R_lower ho10 bsZ); have n1_ := Aside0.mk (below_step bZ hb); clear HB; have HO157 := n0_; have HB := n1_; clear n0_ n1_; clear hb ho10; have hvx11 := (HB.out.cell (World.block_lt_of_cell? w _ hvw0_0)).trans hvw0_0) | ((with_reducible refine gate_dst (N := 19) rfl ?_); refine Kd.R_make (Kd.int .i64) _ 2 rfl (N := 19) rfl 22 _ _ rfl (l0_0.length : Int) rfl rfl Try.underlying22 (.int .i64 0) 8 info2 rfl (by decide) (by omega) 0 (ok := fun _ => True) (okp := fun _ => True) rfl (fun _ hk => hk) trivial oZ (Nat.le_trans (Nat.mul_le_mul_right _ (oZ : (l0_0.length : Int).toNat ≤ 35184372088832)) (by omega)) (Below.refl _ _) (Nat.le_refl _) ?_; intro v159 w12 ho13 hb hg_ hnew_; clear hg_ hnew_; (first | rw [← Ny158.out] at ho13 | (simp only [Int.reduceToNat] at ho13; rw [← Ny158.out] at ho13)); have n0_ := Aside0.mk (Kd.R_elder' (Kd.rZ HO157.out) (Kd.R_base ho13) hb); have n1_ := Aside0.mk (Kd.R_lower (Kd.R_new' ho13 (Kd.R_lt (Kd.rZ HO157.out))) bsZ); have n2_ := Aside0.mk (below_step bZ hb); clear HO157; clear HB; have HO157 := n0_; have HO160 := n1_; have HB := n2_; clear n0_ n1_ n2_; clear hb ho13; have hvx14 := (HB.out.cell (World.block_lt_of_cell? w _ hvw0_0)).trans hvw0_0) | ((with_reducible refine gate_dst (N := 25) rfl ?_); refine Kd.R_make Kd.bool _ 4 rfl (N := 25) rfl 68 _ _ rfl (l0_0.length : Int) rfl rfl Try.underlying68 (.bool false) 1 info4 rfl (by decide) (by omega) false (ok := fun _ => True) (okp := fun _ => True) rfl (fun _ hk => hk) trivial oZ (Nat.le_trans (Nat.mul_le_mul_right _ (oZ : (l0_0.length : Int).toNat ≤ 281474976710656)) (by omega)) (Below.refl _ _) (Nat.le_refl _) ?_; intro v162 w15 ho16 hb hg_ hnew_; clear hg_ hnew_; (first | rw [← Ny161.out] at ho16 | (simp only [Int.reduceToNat] at ho16; rw [← Ny161.out] at ho16)); have n0_ := Aside0.mk (Kd.R_below (Kd.rZ HO157.out) hb); have n1_ := Aside0.mk (Kd.R_below (Kd.rZ HO160.out) hb); have n2_ := Aside0.mk (Kd.R_lower ho16 bsZ); have n3_ := Aside0.mk (below_step bZ hb); clear HO157; clear HO160; clear HB; have HO157 := n0_; have HO160 := n1_; have HO163 := n2_; have HB := n3_; clear n0_ n1_ n2_ n3_; clear hb ho16; have p8 : 0 ≤ (a1 : Int) := oZ; have q8 : (a1 : Int) < ((y161.length : Int) : Int) := oZ; obtain ⟨go8, co8, eo8, gb8, gl8, cl8, HG8⟩ := Kd.R_form HO163.out (by omega); (first | cases eo8 | (injection eo8 with ea_ en_ ec_; (first | subst ea_ | (injection ea_ with ea_; subst ea_)); subst ec_; clear en_)); have GB8 := Aside0.mk gb8; have GG8 := Aside0.mk HG8; clear gb8 gl8 HG8; obtain ⟨hx8_0, hf8_0⟩ := Kd.R_celln false HO163.out (a1 : Int) p8 q8; replace p8 := eq_true p8; replace q8 := eq_true q8; obtain ⟨hy17_, hz17_⟩ := Kd.R_celln false HO163.out (a1 : Int) oZ oZ; have HP17 := Kd.R_putg HO163.out (a1 : Int) true) | ((with_reducible refine gate_store (t := 4) (p := 28) rfl ?_); (try (rw [drewN_self w15]; generalize hq_ : World.drewN w15 _ = w15; have n0_ := Aside0.mk (Kd.R_at hq_ HO157.out); have n1_ := Aside0.mk (Kd.R_at hq_ HO160.out); have n2_ := Aside0.mk (Kd.R_at hq_ HO163.out); have n3_ := Aside0.mk (below_at hq_ HB.out); clear hq_ HO157 HO160 HO163 HB; have HO157 := n0_; have HO160 := n1_; have HO163 := n2_; have HB := n3_; clear n0_ n1_ n2_ n3_; (try (obtain ⟨hy17_, hz17_⟩ := Kd.R_celln false HO163.out (a1 : Int) oZ oZ)); (try (have HP17 := Kd.R_putg HO163.out (a1 : Int) true)))); refine store_event (t := 4) (p := 28) (v := ?vo_w18) (w1 := (w15.setCell ⟨go8, (a1 : Int).toNat, none⟩ (.bool true))) ?hg ?ho ?hn ?hr ?_; (case ho => rfl); (case hg => rfl); (case hn => rfl); (case hr => first | (go_simp; done) | (go_simp; rfl)); intro w18 hw; have hg : w15.grownBy w18 (some go8) := (by rw [hw]; exact HP17.2); have hp_ : Kd.R Kd.bool 4 w18 w.heap.size (fun _ => True) (.slice (some ⟨go8, 0, none⟩) y161.length co8) y164 := (by rw [hw, Ny164.out]; exact HP17.1); clear HP17; have n0_ := Aside0.mk (Kd.R_over' (v := (.slice (some ⟨go8, 0, none⟩) y161.length co8)) (Kd.rZ HO157.out) (Kd.R_typed HO163.out) (by decide) hg); have n1_ := Aside0.mk (Kd.R_over' (v := (.slice (some ⟨go8, 0, none⟩) y161.length co8)) (Kd.rZ HO160.out) (Kd.R_typed HO163.out) (by decide) hg); have n2_ := Aside0.mk (hp_); have n3_ := Aside0.mk ((by rw [hw]; exact below_set (HB.out) GB8.out : Below w.heap.size w w18)); clear HO157; clear HO160; clear HO163; clear HB; have HO157 := n0_; have HO160 := n1_; have HO163 := n2_; have HB := n3_; clear n0_ n1_ n2_ n3_; clear hg hw hp_)); try go_quiet (fail))
      go_loopg [6, 9] k (fun kq v6 v9 w' => ∃ (x6_1 : List Int) (x7_1 : List Int) (x8_1 : List Bool) (x9_1 : Int), v9 = .int .i64 x9_1 ∧ Aside0 (spec_l07Order.l0 kq x6_1 x7_1 x8_1 x9_1 l0_0 l0_1 = some (r1, r2)) ∧ Aside0 (kq ≤ k) ∧ Aside0 (Kd.R (Kd.int .i64) 2 w' w.heap.size (fun k_ => some k_ ≠ (v159 : Value).ownBlock) v6 x6_1) ∧ Aside0 (Kd.R (Kd.int .i64) 2 w' w.heap.size (fun k_ => some k_ ≠ (v6 : Value).ownBlock) v159 x7_1) ∧ Aside0 (Kd.R Kd.bool 4 w' w.heap.size (fun _ => True) (.slice (some ⟨go8, 0, none⟩) y161.length co8) x8_1) ∧ Aside0 (Below w.heap.size w w'))
      case atStart => exact ⟨(y155), (y158), (y164), (0), sZ, H', ⟨Nat.le_refl _⟩, ⟨Kd.rZ (Kd.R_mono HO157.out (fun _ hk => hk.2))⟩, ⟨Kd.rZ (Kd.R_mono HO160.out (fun _ hk => hk.2))⟩, ⟨Kd.rZ HO163.out⟩, ⟨bZ⟩⟩
      case round =>
       clear H'; (try clear c1); (try clear p2); (try clear c3); (try clear c3b0); (try clear c3b1); (try clear c4); (try clear c4b0); (try clear c4b1); (try clear c5); (try clear c5b0); (try clear c5b1); (try clear c6); (try clear c6b0); (try clear c7); (try clear c7b0); (try clear p8); (try clear q8); (try clear hx8); (try clear hf8); (try clear c16); (try clear hx8_0); (try clear p8); (try clear q8)
       obtain ⟨x6_1, x7_1, x8_1, x9_1, rfl, HA, HK1, HO_6, HO_7, HO_8, HB⟩ := hrel
       have hl8_1 := (Kd.R_reads' HO_8.out).1
       rw [hl8_1] at HO_8
       (try simp only [hl8_1])
       (try simp only [hl8_1] at HO_6)
       (try simp only [hl8_1] at HO_7)
       cases gk with
       | zero => exact absurd HA.out (by simp [spec_l07Order.l0])
       | succ k1 =>
        have H := HA.out
        clear HA
        simp only [spec_l07Order.l0] at H
        by_cases c19 : x9_1 < (x6_1.length : Int)
        ·rw [if_pos c19] at H
         have c19b0 : decide (x9_1 < (x6_1.length : Int)) = true := decide_eq_true c19
         clear c19
         have H' := Aside0.mk H
         clear H
         obtain ⟨Ao20, co20, eo20⟩ := Kd.R_slice HO_6.out
         subst eo20
         iterate 5 (go_wp2; try go_quiet (fail))
         go_loopg [6, 10] k1 (fun kq v6 v10 w' => ∃ (x6_2 : List Int) (x7_2 : List Int) (x8_2 : List Bool) (x10_2 : Int), v10 = .int .i64 x10_2 ∧ Aside0 (spec_l07Order.l1 kq x6_2 x7_2 x8_2 x9_1 x10_2 l0_0 l0_1 = some (r1, r2)) ∧ Aside0 (kq ≤ k1) ∧ Aside0 (Kd.R (Kd.int .i64) 2 w' w.heap.size (fun k_ => some k_ ≠ (v159 : Value).ownBlock) v6 x6_2) ∧ Aside0 (Kd.R (Kd.int .i64) 2 w' w.heap.size (fun k_ => some k_ ≠ (v6 : Value).ownBlock) v159 x7_2) ∧ Aside0 (Kd.R Kd.bool 4 w' w.heap.size (fun _ => True) (.slice (some ⟨go8, 0, none⟩) x8_1.length co8) x8_2) ∧ Aside0 (Below w.heap.size w w'))
         case atStart => exact ⟨(x6_1), (x7_1), (x8_1), (0), sZ, H', ⟨Nat.le_refl _⟩, ⟨by (try simp only [hl8_1]); (with_reducible repeat (first | apply Kd.R_alloc | apply Kd.R_drewN | apply Kd.R_drew)); exact HO_6.out⟩, ⟨by (try simp only [hl8_1]); (with_reducible repeat (first | apply Kd.R_alloc | apply Kd.R_drewN | apply Kd.R_drew)); exact HO_7.out⟩, ⟨by (try simp only [hl8_1]); (with_reducible repeat (first | apply Kd.R_alloc | apply Kd.R_drewN | apply Kd.R_drew)); exact HO_8.out⟩, ⟨bZ⟩⟩
         case round =>
          clear H'; (try clear c1); (try clear p2); (try clear c3); (try clear c3b0); (try clear c3b1); (try clear c4); (try clear c4b0); (try clear c4b1); (try clear c5); (try clear c5b0); (try clear c5b1); (try clear c6); (try clear c6b0); (try clear c7); (try clear c7b0); (try clear p8); (try clear q8); (try clear hx8); (try clear hf8); (try clear c16); (try clear c19); (try clear c19b0); (try clear hx8_0); (try clear p2); (try clear p8); (try clear q8)
          obtain ⟨x6_2, x7_2, x8_2, x10_2, rfl, HA, HK2, HO_6, HO_7, HO_8, HB⟩ := hrel
          have hl8_2 := (Kd.R_reads' HO_8.out).1
          rw [hl8_2] at HO_8
          (try simp only [hl8_2])
          (try simp only [hl8_2] at HO_6)
          (try simp only [hl8_2] at HO_7)
          cases gk with
          | zero => exact absurd HA.out (by simp [spec_l07Order.l1])
          | succ k2 =>
           have H := HA.out
           clear HA
           simp only [spec_l07Order.l1] at H
           by_cases c21 : x10_2 < (l0_1.length : Int)
           ·rw [if_pos c21] at H
            have c21b0 : decide (x10_2 < (l0_1.length : Int)) = true := decide_eq_true c21
            clear c21
            by_cases c22 : 0 ≤ x10_2
            ·rw [if_pos c22] at H
             have c22b0 : decide (0 ≤ x10_2) = true := decide_eq_true c22
             clear c22
             by_cases c23 : 0 ≤ x9_1
             ·rw [if_pos c23] at H
              have c23b0 : decide (0 ≤ x9_1) = true := decide_eq_true c23
              clear c23
              by_cases c24 : x9_1 < (x6_2.length : Int)
              ·rw [if_pos c24] at H
               have c24b0 : decide (x9_1 < (x6_2.length : Int)) = true := decide_eq_true c24
               clear c24
               by_cases c25 : ((rd_T59 l0_1 x10_2).f1) = (rd x6_2 x9_1)
               ·rw [if_pos c25] at H
                have c25b0 : (((rd_T59 l0_1 x10_2).f1) == (rd x6_2 x9_1)) = true := beq_iff_eq.mpr c25
                have c25b1 : (((rd_T59 l0_1 x10_2).f1) != (rd x6_2 x9_1)) = false := bne_eq_false_iff_eq.mpr c25
                clear c25
                by_cases c26 : 0 ≤ ((rd_T59 l0_1 x10_2).f2)
                ·rw [if_pos c26] at H
                 have c26b0 : decide (0 ≤ ((rd_T59 l0_1 x10_2).f2)) = true := decide_eq_true c26
                 clear c26
                 by_cases c27 : ((rd_T59 l0_1 x10_2).f2) < (x8_2.length : Int)
                 ·rw [if_pos c27] at H
                  have c27b0 : decide (((rd_T59 l0_1 x10_2).f2) < (x8_2.length : Int)) = true := decide_eq_true c27
                  clear c27
                  obtain ⟨bq28, hbq28⟩ : ∃ b_ : Bool, b_ = (rdOf false x8_2 ((rd_T59 l0_1 x10_2).f2)) := ⟨_, rfl⟩
                  replace H : (if (bq28 = true) then (if ((rd_T59 l0_1 x10_2).f2) = (rd x6_2 x9_1) then (if 0 ≤ ((rd_T59 l0_1 x10_2).f1) then (if ((rd_T59 l0_1 x10_2).f1) < (x8_2.length : Int) then (if (rdOf false x8_2 ((rd_T59 l0_1 x10_2).f1) = true) then (spec_l07Order.l1 k2 x6_2 x7_2 x8_2 x9_1 (wrap64 (x10_2 + 1)) l0_0 l0_1) else (if ((rd_T59 l0_1 x10_2).f1) < (x7_2.length : Int) then (if x6_2.length < 17592186044416 then (spec_l07Order.l1 k2 (x6_2 ++ [(rd_T59 l0_1 x10_2).f1]) (x7_2.set (((rd_T59 l0_1 x10_2).f1) : Int).toNat (wrap64 ((wrap64 (-x10_2)) - 1))) (x8_2.set (((rd_T59 l0_1 x10_2).f1) : Int).toNat true) x9_1 (wrap64 (x10_2 + 1)) l0_0 l0_1) else (none)) else (none))) else (none)) else (none)) else (spec_l07Order.l1 k2 x6_2 x7_2 x8_2 x9_1 (wrap64 (x10_2 + 1)) l0_0 l0_1)) else ((some (x8_2.set (((rd_T59 l0_1 x10_2).f2) : Int).toNat true : List Bool)).bind fun y183 => (if ((rd_T59 l0_1 x10_2).f2) < (x7_2.length : Int) then ((some (x7_2.set (((rd_T59 l0_1 x10_2).f2) : Int).toNat (wrap64 (x10_2 + 1)) : List Int)).bind fun y185 => (if x6_2.length < 17592186044416 then ((some (x6_2 ++ [(rd_T59 l0_1 x10_2).f2] : List Int)).bind fun y187 => (if x9_1 < (y187.length : Int) then (if ((rd_T59 l0_1 x10_2).f2) = (rd y187 x9_1) then (if 0 ≤ ((rd_T59 l0_1 x10_2).f1) then (if ((rd_T59 l0_1 x10_2).f1) < (x8_2.length : Int) then (if (rdOf false y183 ((rd_T59 l0_1 x10_2).f1) = true) then (spec_l07Order.l1 k2 y187 y185 y183 x9_1 (wrap64 (x10_2 + 1)) l0_0 l0_1) else (if ((rd_T59 l0_1 x10_2).f1) < (x7_2.length : Int) then (if y187.length < 17592186044416 then (spec_l07Order.l1 k2 (y187 ++ [(rd_T59 l0_1 x10_2).f1]) (y185.set (((rd_T59 l0_1 x10_2).f1) : Int).toNat (wrap64 ((wrap64 (-x10_2)) - 1))) (y183.set (((rd_T59 l0_1 x10_2).f1) : Int).toNat true) x9_1 (wrap64 (x10_2 + 1)) l0_0 l0_1) else (none)) else (none))) else (none)) else (none)) else (spec_l07Order.l1 k2 y187 y185 y183 x9_1 (wrap64 (x10_2 + 1)) l0_0 l0_1)) else (none))) else (none))) else (none)))) = some (r1, r2) := by rw [← hbq28] at H; exact H
                  have Nbq28 := Aside0.mk hbq28
                  clear hbq28
                  by_cases c29 : (bq28 = true)
                  ·subst c29
                   have H1 : (if ((rd_T59 l0_1 x10_2).f2) = (rd x6_2 x9_1) then (if 0 ≤ ((rd_T59 l0_1 x10_2).f1) then (if ((rd_T59 l0_1 x10_2).f1) < (x8_2.length : Int) then (if (rdOf false x8_2 ((rd_T59 l0_1 x10_2).f1) = true) then (spec_l07Order.l1 k2 x6_2 x7_2 x8_2 x9_1 (wrap64 (x10_2 + 1)) l0_0 l0_1) else (if ((rd_T59 l0_1 x10_2).f1) < (x7_2.length : Int) then (if x6_2.length < 17592186044416 then (spec_l07Order.l1 k2 (x6_2 ++ [(rd_T59 l0_1 x10_2).f1]) (x7_2.set (((rd_T59 l0_1 x10_2).f1) : Int).toNat (wrap64 ((wrap64 (-x10_2)) - 1))) (x8_2.set (((rd_T59 l0_1 x10_2).f1) : Int).toNat true) x9_1 (wrap64 (x10_2 + 1)) l0_0 l0_1) else (none)) else (none))) else (none)) else (none)) else (spec_l07Order.l1 k2 x6_2 x7_2 x8_2 x9_1 (wrap64 (x10_2 + 1)) l0_0 l0_1)) = some (r1, r2) := by rw [if_pos rfl] at H; exact H
                   clear H
                   have H := H1
                   clear H1
                   by_cases c30 : ((rd_T59 l0_1 x10_2).f2) = (rd x6_2 x9_1)
                   ·rw [if_pos c30] at H
                    have c30b0 : (((rd_T59 l0_1 x10_2).f2) == (rd x6_2 x9_1)) = true := beq_iff_eq.mpr c30
                    have c30b1 : (((rd_T59 l0_1 x10_2).f2) != (rd x6_2 x9_1)) = false := bne_eq_false_iff_eq.mpr c30
                    clear c30
                    by_cases c31 : 0 ≤ ((rd_T59 l0_1 x10_2).f1)
                    ·rw [if_pos c31] at H
                     have c31b0 : decide (0 ≤ ((rd_T59 l0_1 x10_2).f1)) = true := decide_eq_true c31
                     clear c31
                     by_cases c32 : ((rd_T59 l0_1 x10_2).f1) < (x8_2.length : Int)
                     ·rw [if_pos c32] at H
                      have c32b0 : decide (((rd_T59 l0_1 x10_2).f1) < (x8_2.length : Int)) = true := decide_eq_true c32
                      clear c32
                      obtain ⟨bq33, hbq33⟩ : ∃ b_ : Bool, b_ = (rdOf false x8_2 ((rd_T59 l0_1 x10_2).f1)) := ⟨_, rfl⟩
                      replace H : (if (bq33 = true) then (spec_l07Order.l1 k2 x6_2 x7_2 x8_2 x9_1 (wrap64 (x10_2 + 1)) l0_0 l0_1) else (if ((rd_T59 l0_1 x10_2).f1) < (x7_2.length : Int) then (if x6_2.length < 17592186044416 then (spec_l07Order.l1 k2 (x6_2 ++ [(rd_T59 l0_1 x10_2).f1]) (x7_2.set (((rd_T59 l0_1 x10_2).f1) : Int).toNat (wrap64 ((wrap64 (-x10_2)) - 1))) (x8_2.set (((rd_T59 l0_1 x10_2).f1) : Int).toNat true) x9_1 (wrap64 (x10_2 + 1)) l0_0 l0_1) else (none)) else (none))) = some (r1, r2) := by rw [← hbq33] at H; exact H
                      have Nbq33 := Aside0.mk hbq33
                      clear hbq33
                      by_cases c34 : (bq33 = true)
                      ·subst c34
                       have H1 : (spec_l07Order.l1 k2 x6_2 x7_2 x8_2 x9_1 (wrap64 (x10_2 + 1)) l0_0 l0_1) = some (r1, r2) := by rw [if_pos rfl] at H; exact H
                       clear H
                       have H := H1
                       clear H1
                       have H' := Aside0.mk H
                       clear H
                       have hvx35 := (HB.out.cell (World.block_lt_of_cell? w _ hvw0_1)).trans hvw0_1
                       have hvx36 := (HB.out.cell (World.block_lt_of_cell? w _ hvw0_1)).trans hvw0_1
                       have p165 : 0 ≤ (x10_2 : Int) := oZ
                       have q165 : x10_2 < (l0_1.length : Int) := oZ
                       obtain ⟨ad165, e165, hx165_0, hx165_1, hx165_2, hx165_3, hx165_4, hx165_5⟩ := at_T59 HR0_1.out x10_2 p165 q165
                       cases e165
                       replace hx165_0 := (HB.out.cell (World.block_lt_of_cell? w _ hx165_0)).trans hx165_0
                       replace hx165_1 := (HB.out.cell (World.block_lt_of_cell? w _ hx165_1)).trans hx165_1
                       replace hx165_2 := (HB.out.cell (World.block_lt_of_cell? w _ hx165_2)).trans hx165_2
                       replace hx165_3 := (HB.out.cell (World.block_lt_of_cell? w _ hx165_3)).trans hx165_3
                       replace hx165_4 := (HB.out.cell (World.block_lt_of_cell? w _ hx165_4)).trans hx165_4
                       replace hx165_5 := (HB.out.cell (World.block_lt_of_cell? w _ hx165_5)).trans hx165_5
                       replace p165 := eq_true p165
                       replace q165 := eq_true q165
                       have p166 : 0 ≤ (x10_2 : Int) := oZ
                       have q166 : x10_2 < (l0_1.length : Int) := oZ
                       obtain ⟨ad166, e166, hx166_0, hx166_1, hx166_2, hx166_3, hx166_4, hx166_5⟩ := at_T59 HR0_1.out x10_2 p166 q166
                       obtain rfl : ad165 = ad166 := (by injection e166)
                       replace hx166_0 := (HB.out.cell (World.block_lt_of_cell? w _ hx166_0)).trans hx166_0
                       replace hx166_1 := (HB.out.cell (World.block_lt_of_cell? w _ hx166_1)).trans hx166_1
                       replace hx166_2 := (HB.out.cell (World.block_lt_of_cell? w _ hx166_2)).trans hx166_2
                       replace hx166_3 := (HB.out.cell (World.block_lt_of_cell? w _ hx166_3)).trans hx166_3
                       replace hx166_4 := (HB.out.cell (World.block_lt_of_cell? w _ hx166_4)).trans hx166_4
                       replace hx166_5 := (HB.out.cell (World.block_lt_of_cell? w _ hx166_5)).trans hx166_5
                       replace p166 := eq_true p166
                       replace q166 := eq_true q166
                       obtain ⟨Ao37, co37, eo37⟩ := Kd.R_slice HO_6.out
                       subst eo37
                       have p167 : 0 ≤ (x9_1 : Int) := oZ
                       have q167 : x9_1 < (x6_2.length : Int) := oZ
                       obtain ⟨ad167, e167, hx167_0⟩ := Kd.at_int (Kd.R_reads' HO_6.out).2.2 x9_1 p167 q167
                       cases e167
                       replace p167 := eq_true p167
                       replace q167 := eq_true q167
                       have p168 : 0 ≤ (x10_2 : Int) := oZ
                       have q168 : x10_2 < (l0_1.length : Int) := oZ
                       obtain ⟨ad168, e168, hx168_0, hx168_1, hx168_2, hx168_3, hx168_4, hx168_5⟩ := at_T59 HR0_1.out x10_2 p168 q168
                       obtain rfl : ad165 = ad168 := (by injection e168)
                       replace hx168_0 := (HB.out.cell (World.block_lt_of_cell? w _ hx168_0)).trans hx168_0
                       replace hx168_1 := (HB.out.cell (World.block_lt_of_cell? w _ hx168_1)).trans hx168_1
                       replace hx168_2 := (HB.out.cell (World.block_lt_of_cell? w _ hx168_2)).trans hx168_2
                       replace hx168_3 := (HB.out.cell (World.block_lt_of_cell? w _ hx168_3)).trans hx168_3
                       replace hx168_4 := (HB.out.cell (World.block_lt_of_cell? w _ hx168_4)).trans hx168_4
                       replace hx168_5 := (HB.out.cell (World.block_lt_of_cell? w _ hx168_5)).trans hx168_5
                       replace p168 := eq_true p168
                       replace q168 := eq_true q168
                       have p169 : 0 ≤ (((rd_T59 l0_1 x10_2).f2) : Int) := oZ
                       have q169 : ((rd_T59 l0_1 x10_2).f2) < (x8_2.length : Int) := oZ
                       obtain ⟨ad169, e169, hx169_0⟩ := Kd.at_bool (Kd.R_reads' HO_8.out).2.2 ((rd_T59 l0_1 x10_2).f2) p169 q169
                       (try rw [← Nbq28.out] at hx169_0)
                       (try rw [← Nbq33.out] at hx169_0)
                       obtain rfl : (⟨go8, 0, none⟩ : Addr) = ad169 := (by injection e169)
                       (first | simp only [add_plain] at hx169_0 | simp only [add_at] at hx169_0 | simp only [Addr.add, Nat.zero_add] at hx169_0 | skip)
                       replace p169 := eq_true p169
                       replace q169 := eq_true q169
                       have p170 : 0 ≤ (x10_2 : Int) := oZ
                       have q170 : x10_2 < (l0_1.length : Int) := oZ
                       obtain ⟨ad170, e170, hx170_0, hx170_1, hx170_2, hx170_3, hx170_4, hx170_5⟩ := at_T59 HR0_1.out x10_2 p170 q170
                       obtain rfl : ad165 = ad170 := (by injection e170)
                       replace hx170_0 := (HB.out.cell (World.block_lt_of_cell? w _ hx170_0)).trans hx170_0
                       replace hx170_1 := (HB.out.cell (World.block_lt_of_cell? w _ hx170_1)).trans hx170_1
                       replace hx170_2 := (HB.out.cell (World.block_lt_of_cell? w _ hx170_2)).trans hx170_2
                       replace hx170_3 := (HB.out.cell (World.block_lt_of_cell? w _ hx170_3)).trans hx170_3
                       replace hx170_4 := (HB.out.cell (World.block_lt_of_cell? w _ hx170_4)).trans hx170_4
                       replace hx170_5 := (HB.out.cell (World.block_lt_of_cell? w _ hx170_5)).trans hx170_5
                       replace p170 := eq_true p170
                       replace q170 := eq_true q170
                       have p171 : 0 ≤ (x9_1 : Int) := oZ
                       have q171 : x9_1 < (x6_2.length : Int) := oZ
                       obtain ⟨ad171, e171, hx171_0⟩ := Kd.at_int (Kd.R_reads' HO_6.out).2.2 x9_1 p171 q171
                       obtain rfl : ad167 = ad171 := (by injection e171)
                       replace p171 := eq_true p171
                       replace q171 := eq_true q171
                       have p172 : 0 ≤ (x10_2 : Int) := oZ
                       have q172 : x10_2 < (l0_1.length : Int) := oZ
                       obtain ⟨ad172, e172, hx172_0, hx172_1, hx172_2, hx172_3, hx172_4, hx172_5⟩ := at_T59 HR0_1.out x10_2 p172 q172
                       obtain rfl : ad165 = ad172 := (by injection e172)
                       replace hx172_0 := (HB.out.cell (World.block_lt_of_cell? w _ hx172_0)).trans hx172_0
                       replace hx172_1 := (HB.out.cell (World.block_lt_of_cell? w _ hx172_1)).trans hx172_1
                       replace hx172_2 := (HB.out.cell (World.block_lt_of_cell? w _ hx172_2)).trans hx172_2
                       replace hx172_3 := (HB.out.cell (World.block_lt_of_cell? w _ hx172_3)).trans hx172_3
                       replace hx172_4 := (HB.out.cell (World.block_lt_of_cell? w _ hx172_4)).trans hx172_4
                       replace hx172_5 := (HB.out.cell (World.block_lt_of_cell? w _ hx172_5)).trans hx172_5
                       replace p172 := eq_true p172
                       replace q172 := eq_true q172
                       have p173 : 0 ≤ (((rd_T59 l0_1 x10_2).f1) : Int) := oZ
                       have q173 : ((rd_T59 l0_1 x10_2).f1) < (x8_2.length : Int) := oZ
                       obtain ⟨ad173, e173, hx173_0⟩ := Kd.at_bool (Kd.R_reads' HO_8.out).2.2 ((rd_T59 l0_1 x10_2).f1) p173 q173
                       (try rw [← Nbq28.out] at hx173_0)
                       (try rw [← Nbq33.out] at hx173_0)
                       obtain rfl : (⟨go8, 0, none⟩ : Addr) = ad173 := (by injection e173)
                       (first | simp only [add_plain] at hx173_0 | simp only [add_at] at hx173_0 | simp only [Addr.add, Nat.zero_add] at hx173_0 | skip)
                       replace p173 := eq_true p173
                       replace q173 := eq_true q173
                       iterate 5 (go_wp2; try go_quiet (fail))
                       (try simp only [← hl8_2])
                       go_roundg k2
                       case measure => have := HK1.out; have := HK2.out; omega
                       case rel => exact ⟨(x6_2), (x7_2), (x8_2), (wrap64 (x10_2 + 1)), sZ, H', ⟨by have := HK1.out; have := HK2.out; omega⟩, ⟨by (try simp only [hl8_1]); (try simp only [hl8_2]); (with_reducible repeat (first | apply Kd.R_alloc | apply Kd.R_drewN | apply Kd.R_drew)); exact HO_6.out⟩, ⟨by (try simp only [hl8_1]); (try simp only [hl8_2]); (with_reducible repeat (first | apply Kd.R_alloc | apply Kd.R_drewN | apply Kd.R_drew)); exact HO_7.out⟩, ⟨by (try simp only [hl8_1]); (try simp only [hl8_2]); (with_reducible repeat (first | apply Kd.R_alloc | apply Kd.R_drewN | apply Kd.R_drew)); exact HO_8.out⟩, ⟨bZ⟩⟩
                      ·replace c34 := Bool.eq_false_iff.mpr c34
                       subst c34
                       have H1 : (if ((rd_T59 l0_1 x10_2).f1) < (x7_2.length : Int) then (if x6_2.length < 17592186044416 then (spec_l07Order.l1 k2 (x6_2 ++ [(rd_T59 l0_1 x10_2).f1]) (x7_2.set (((rd_T59 l0_1 x10_2).f1) : Int).toNat (wrap64 ((wrap64 (-x10_2)) - 1))) (x8_2.set (((rd_T59 l0_1 x10_2).f1) : Int).toNat true) x9_1 (wrap64 (x10_2 + 1)) l0_0 l0_1) else (none)) else (none)) = some (r1, r2) := by rw [if_neg (show ¬ (false = true) by decide)] at H; exact H
                       clear H
                       have H := H1
                       clear H1
                       obtain ⟨y175, hy175⟩ : ∃ y_ : List Bool, y_ = (x8_2.set (((rd_T59 l0_1 x10_2).f1) : Int).toNat true) := ⟨_, rfl⟩
                       replace H : (if ((rd_T59 l0_1 x10_2).f1) < (x7_2.length : Int) then (if x6_2.length < 17592186044416 then (spec_l07Order.l1 k2 (x6_2 ++ [(rd_T59 l0_1 x10_2).f1]) (x7_2.set (((rd_T59 l0_1 x10_2).f1) : Int).toNat (wrap64 ((wrap64 (-x10_2)) - 1))) y175 x9_1 (wrap64 (x10_2 + 1)) l0_0 l0_1) else (none)) else (none)) = some (r1, r2) := by first | (rw [hy175]; with_reducible exact H) | (have H2_ := (Option.bind_some _ _).symm.trans H; rw [hy175]; with_reducible exact H2_) | (have H2_ := (Option.bind_some _ _).symm.trans H; with_reducible exact H2_) | with_reducible exact H | (rw [hy175]; exact H) | exact H
                       have Ny175 := Aside0.mk hy175
                       clear hy175
                       by_cases c39 : ((rd_T59 l0_1 x10_2).f1) < (x7_2.length : Int)
                       ·rw [if_pos c39] at H
                        have c39b0 : decide (((rd_T59 l0_1 x10_2).f1) < (x7_2.length : Int)) = true := decide_eq_true c39
                        clear c39
                        obtain ⟨y177, hy177⟩ : ∃ y_ : List Int, y_ = (x7_2.set (((rd_T59 l0_1 x10_2).f1) : Int).toNat (wrap64 ((wrap64 (-x10_2)) - 1))) := ⟨_, rfl⟩
                        replace H : (if x6_2.length < 17592186044416 then (spec_l07Order.l1 k2 (x6_2 ++ [(rd_T59 l0_1 x10_2).f1]) y177 y175 x9_1 (wrap64 (x10_2 + 1)) l0_0 l0_1) else (none)) = some (r1, r2) := by first | (rw [hy177]; with_reducible exact H) | (have H2_ := (Option.bind_some _ _).symm.trans H; rw [hy177]; with_reducible exact H2_) | (have H2_ := (Option.bind_some _ _).symm.trans H; with_reducible exact H2_) | with_reducible exact H | (rw [hy177]; exact H) | exact H
                        have Ny177 := Aside0.mk hy177
                        clear hy177
                        by_cases c41 : x6_2.length < 17592186044416
                        ·rw [if_pos c41] at H
                         have LMc41 := Aside0.mk c41
                         clear c41
                         obtain ⟨y179, hy179⟩ : ∃ y_ : List Int, y_ = (x6_2 ++ [(rd_T59 l0_1 x10_2).f1]) := ⟨_, rfl⟩
                         replace H : (spec_l07Order.l1 k2 y179 y177 y175 x9_1 (wrap64 (x10_2 + 1)) l0_0 l0_1) = some (r1, r2) := by first | (rw [hy179]; with_reducible exact H) | (have H2_ := (Option.bind_some _ _).symm.trans H; rw [hy179]; with_reducible exact H2_) | (have H2_ := (Option.bind_some _ _).symm.trans H; with_reducible exact H2_) | with_reducible exact H | (rw [hy179]; exact H) | exact H
                         have Ny179 := Aside0.mk hy179
                         clear hy179
                         have H' := Aside0.mk H
                         clear H
                         have hvx42 := (HB.out.cell (World.block_lt_of_cell? w _ hvw0_1)).trans hvw0_1
                         have hvx43 := (HB.out.cell (World.block_lt_of_cell? w _ hvw0_1)).trans hvw0_1
                         have p165 : 0 ≤ (x10_2 : Int) := oZ
                         have q165 : x10_2 < (l0_1.length : Int) := oZ
                         obtain ⟨ad165, e165, hx165_0, hx165_1, hx165_2, hx165_3, hx165_4, hx165_5⟩ := at_T59 HR0_1.out x10_2 p165 q165
                         cases e165
                         replace hx165_0 := (HB.out.cell (World.block_lt_of_cell? w _ hx165_0)).trans hx165_0
                         replace hx165_1 := (HB.out.cell (World.block_lt_of_cell? w _ hx165_1)).trans hx165_1
                         replace hx165_2 := (HB.out.cell (World.block_lt_of_cell? w _ hx165_2)).trans hx165_2
                         replace hx165_3 := (HB.out.cell (World.block_lt_of_cell? w _ hx165_3)).trans hx165_3
                         replace hx165_4 := (HB.out.cell (World.block_lt_of_cell? w _ hx165_4)).trans hx165_4
                         replace hx165_5 := (HB.out.cell (World.block_lt_of_cell? w _ hx165_5)).trans hx165_5
                         replace p165 := eq_true p165
                         replace q165 := eq_true q165
                         have p166 : 0 ≤ (x10_2 : Int) := oZ
                         have q166 : x10_2 < (l0_1.length : Int) := oZ
                         obtain ⟨ad166, e166, hx166_0, hx166_1, hx166_2, hx166_3, hx166_4, hx166_5⟩ := at_T59 HR0_1.out x10_2 p166 q166
                         obtain rfl : ad165 = ad166 := (by injection e166)
                         replace hx166_0 := (HB.out.cell (World.block_lt_of_cell? w _ hx166_0)).trans hx166_0
                         replace hx166_1 := (HB.out.cell (World.block_lt_of_cell? w _ hx166_1)).trans hx166_1
                         replace hx166_2 := (HB.out.cell (World.block_lt_of_cell? w _ hx166_2)).trans hx166_2
                         replace hx166_3 := (HB.out.cell (World.block_lt_of_cell? w _ hx166_3)).trans hx166_3
                         replace hx166_4 := (HB.out.cell (World.block_lt_of_cell? w _ hx166_4)).trans hx166_4
                         replace hx166_5 := (HB.out.cell (World.block_lt_of_cell? w _ hx166_5)).trans hx166_5
                         replace p166 := eq_true p166
                         replace q166 := eq_true q166
                         obtain ⟨Ao44, co44, eo44⟩ := Kd.R_slice HO_6.out
                         subst eo44
                         have p167 : 0 ≤ (x9_1 : Int) := oZ
                         have q167 : x9_1 < (x6_2.length : Int) := oZ
                         obtain ⟨ad167, e167, hx167_0⟩ := Kd.at_int (Kd.R_reads' HO_6.out).2.2 x9_1 p167 q167
                         cases e167
                         replace p167 := eq_true p167
                         replace q167 := eq_true q167
                         have p168 : 0 ≤ (x10_2 : Int) := oZ
                         have q168 : x10_2 < (l0_1.length : Int) := oZ
                         obtain ⟨ad168, e168, hx168_0, hx168_1, hx168_2, hx168_3, hx168_4, hx168_5⟩ := at_T59 HR0_1.out x10_2 p168 q168
                         obtain rfl : ad165 = ad168 := (by injection e168)
                         replace hx168_0 := (HB.out.cell (World.block_lt_of_cell? w _ hx168_0)).trans hx168_0
                         replace hx168_1 := (HB.out.cell (World.block_lt_of_cell? w _ hx168_1)).trans hx168_1
                         replace hx168_2 := (HB.out.cell (World.block_lt_of_cell? w _ hx168_2)).trans hx168_2
                         replace hx168_3 := (HB.out.cell (World.block_lt_of_cell? w _ hx168_3)).trans hx168_3
                         replace hx168_4 := (HB.out.cell (World.block_lt_of_cell? w _ hx168_4)).trans hx168_4
                         replace hx168_5 := (HB.out.cell (World.block_lt_of_cell? w _ hx168_5)).trans hx168_5
                         replace p168 := eq_true p168
                         replace q168 := eq_true q168
                         have p169 : 0 ≤ (((rd_T59 l0_1 x10_2).f2) : Int) := oZ
                         have q169 : ((rd_T59 l0_1 x10_2).f2) < (x8_2.length : Int) := oZ
                         obtain ⟨ad169, e169, hx169_0⟩ := Kd.at_bool (Kd.R_reads' HO_8.out).2.2 ((rd_T59 l0_1 x10_2).f2) p169 q169
                         (try rw [← Nbq28.out] at hx169_0)
                         (try rw [← Nbq33.out] at hx169_0)
                         obtain rfl : (⟨go8, 0, none⟩ : Addr) = ad169 := (by injection e169)
                         (first | simp only [add_plain] at hx169_0 | simp only [add_at] at hx169_0 | simp only [Addr.add, Nat.zero_add] at hx169_0 | skip)
                         replace p169 := eq_true p169
                         replace q169 := eq_true q169
                         have p170 : 0 ≤ (x10_2 : Int) := oZ
                         have q170 : x10_2 < (l0_1.length : Int) := oZ
                         obtain ⟨ad170, e170, hx170_0, hx170_1, hx170_2, hx170_3, hx170_4, hx170_5⟩ := at_T59 HR0_1.out x10_2 p170 q170
                         obtain rfl : ad165 = ad170 := (by injection e170)
                         replace hx170_0 := (HB.out.cell (World.block_lt_of_cell? w _ hx170_0)).trans hx170_0
                         replace hx170_1 := (HB.out.cell (World.block_lt_of_cell? w _ hx170_1)).trans hx170_1
                         replace hx170_2 := (HB.out.cell (World.block_lt_of_cell? w _ hx170_2)).trans hx170_2
                         replace hx170_3 := (HB.out.cell (World.block_lt_of_cell? w _ hx170_3)).trans hx170_3
                         replace hx170_4 := (HB.out.cell (World.block_lt_of_cell? w _ hx170_4)).trans hx170_4
                         replace hx170_5 := (HB.out.cell (World.block_lt_of_cell? w _ hx170_5)).trans hx170_5
                         replace p170 := eq_true p170
                         replace q170 := eq_true q170
                         have p171 : 0 ≤ (x9_1 : Int) := oZ
                         have q171 : x9_1 < (x6_2.length : Int) := oZ
                         obtain ⟨ad171, e171, hx171_0⟩ := Kd.at_int (Kd.R_reads' HO_6.out).2.2 x9_1 p171 q171
                         obtain rfl : ad167 = ad171 := (by injection e171)
                         replace p171 := eq_true p171
                         replace q171 := eq_true q171
                         have p172 : 0 ≤ (x10_2 : Int) := oZ
                         have q172 : x10_2 < (l0_1.length : Int) := oZ
                         obtain ⟨ad172, e172, hx172_0, hx172_1, hx172_2, hx172_3, hx172_4, hx172_5⟩ := at_T59 HR0_1.out x10_2 p172 q172
                         obtain rfl : ad165 = ad172 := (by injection e172)
                         replace hx172_0 := (HB.out.cell (World.block_lt_of_cell? w _ hx172_0)).trans hx172_0
                         replace hx172_1 := (HB.out.cell (World.block_lt_of_cell? w _ hx172_1)).trans hx172_1
                         replace hx172_2 := (HB.out.cell (World.block_lt_of_cell? w _ hx172_2)).trans hx172_2
                         replace hx172_3 := (HB.out.cell (World.block_lt_of_cell? w _ hx172_3)).trans hx172_3
                         replace hx172_4 := (HB.out.cell (World.block_lt_of_cell? w _ hx172_4)).trans hx172_4
                         replace hx172_5 := (HB.out.cell (World.block_lt_of_cell? w _ hx172_5)).trans hx172_5
                         replace p172 := eq_true p172
                         replace q172 := eq_true q172
                         have p173 : 0 ≤ (((rd_T59 l0_1 x10_2).f1) : Int) := oZ
                         have q173 : ((rd_T59 l0_1 x10_2).f1) < (x8_2.length : Int) := oZ
                         obtain ⟨ad173, e173, hx173_0⟩ := Kd.at_bool (Kd.R_reads' HO_8.out).2.2 ((rd_T59 l0_1 x10_2).f1) p173 q173
                         (try rw [← Nbq28.out] at hx173_0)
                         (try rw [← Nbq33.out] at hx173_0)
                         obtain rfl : (⟨go8, 0, none⟩ : Addr) = ad173 := (by injection e173)
                         (first | simp only [add_plain] at hx173_0 | simp only [add_at] at hx173_0 | simp only [Addr.add, Nat.zero_add] at hx173_0 | skip)
                         replace p173 := eq_true p173
                         replace q173 := eq_true q173
                         have p174 : 0 ≤ (x10_2 : Int) := oZ
                         have q174 : x10_2 < (l0_1.length : Int) := oZ
                         obtain ⟨ad174, e174, hx174_0, hx174_1, hx174_2, hx174_3, hx174_4, hx174_5⟩ := at_T59 HR0_1.out x10_2 p174 q174
                         obtain rfl : ad165 = ad174 := (by injection e174)
                         replace hx174_0 := (HB.out.cell (World.block_lt_of_cell? w _ hx174_0)).trans hx174_0
                         replace hx174_1 := (HB.out.cell (World.block_lt_of_cell? w _ hx174_1)).trans hx174_1
                         replace hx174_2 := (HB.out.cell (World.block_lt_of_cell? w _ hx174_2)).trans hx174_2
                         replace hx174_3 := (HB.out.cell (World.block_lt_of_cell? w _ hx174_3)).trans hx174_3
                         replace hx174_4 := (HB.out.cell (World.block_lt_of_cell? w _ hx174_4)).trans hx174_4
                         replace hx174_5 := (HB.out.cell (World.block_lt_of_cell? w _ hx174_5)).trans hx174_5
                         replace p174 := eq_true p174
                         replace q174 := eq_true q174
                         have p38 : 0 ≤ (((rd_T59 l0_1 x10_2).f1) : Int) := oZ
                         have q38 : (((rd_T59 l0_1 x10_2).f1) : Int) < ((x8_2.length : Int) : Int) := oZ
                         obtain ⟨hx38_0, hf38_0⟩ := Kd.R_celln false HO_8.out (((rd_T59 l0_1 x10_2).f1) : Int) p38 q38
                         replace p38 := eq_true p38
                         replace q38 := eq_true q38
                         have HP45 := Kd.R_putg HO_8.out (((rd_T59 l0_1 x10_2).f1) : Int) true
                         iterate 5 (go_wp2_with (first | ((with_reducible refine gate_store (t := 4) (p := 114) rfl ?_); (try (rw [drewN_self wr]; generalize hq_ : World.drewN wr _ = wr; have n0_ := Aside0.mk (Kd.R_at hq_ HO_6.out); have n1_ := Aside0.mk (Kd.R_at hq_ HO_7.out); have n2_ := Aside0.mk (Kd.R_at hq_ HO_8.out); have n3_ := Aside0.mk (below_at hq_ HB.out); clear hq_ HO_6 HO_7 HO_8 HB; have HO_6 := n0_; have HO_7 := n1_; have HO_8 := n2_; have HB := n3_; clear n0_ n1_ n2_ n3_; (try (have HP45 := Kd.R_putg HO_8.out (((rd_T59 l0_1 x10_2).f1) : Int) true)); (try (obtain ⟨hx38_0, hf38_0⟩ := Kd.R_celln false HO_8.out (((rd_T59 l0_1 x10_2).f1) : Int) (of_eq_true p38) (of_eq_true q38))))); refine store_event (t := 4) (p := 114) (v := ?vo_w46) (w1 := (wr.setCell ⟨go8, (((rd_T59 l0_1 x10_2).f1) : Int).toNat, none⟩ (.bool true))) ?hg ?ho ?hn ?hr ?_; (case ho => rfl); (case hg => rfl); (case hn => rfl); (case hr => first | (go_simp; done) | (go_simp; rfl)); intro w46 hw; have hg : wr.grownBy w46 (some go8) := (by rw [hw]; exact HP45.2); have hp_ : Kd.R Kd.bool 4 w46 w.heap.size (fun _ => True) (.slice (some ⟨go8, 0, none⟩) x8_2.length co8) y175 := (by rw [hw, Ny175.out]; exact HP45.1); clear HP45; have n0_ := Aside0.mk (Kd.R_over' (v := (.slice (some ⟨go8, 0, none⟩) x8_2.length co8)) (Kd.rZ HO_6.out) (Kd.R_typed HO_8.out) (by decide) hg); have n1_ := Aside0.mk (Kd.R_over' (v := (.slice (some ⟨go8, 0, none⟩) x8_2.length co8)) (Kd.rZ HO_7.out) (Kd.R_typed HO_8.out) (by decide) hg); have n2_ := Aside0.mk (hp_); have n3_ := Aside0.mk ((by rw [hw]; exact below_set (HB.out) GB8.out : Below w.heap.size w w46)); clear HO_6; clear HO_7; clear HO_8; clear HB; have HO_6 := n0_; have HO_7 := n1_; have HO_8 := n2_; have HB := n3_; clear n0_ n1_ n2_ n3_; clear hg hw hp_; have p176 : 0 ≤ (x10_2 : Int) := oZ; have q176 : x10_2 < (l0_1.length : Int) := oZ; obtain ⟨ad176, e176, hx176_0, hx176_1, hx176_2, hx176_3, hx176_4, hx176_5⟩ := at_T59 HR0_1.out x10_2 p176 q176; obtain rfl : ad165 = ad176 := (by injection e176); replace hx176_0 := (HB.out.cell (World.block_lt_of_cell? w _ hx176_0)).trans hx176_0; replace hx176_1 := (HB.out.cell (World.block_lt_of_cell? w _ hx176_1)).trans hx176_1; replace hx176_2 := (HB.out.cell (World.block_lt_of_cell? w _ hx176_2)).trans hx176_2; replace hx176_3 := (HB.out.cell (World.block_lt_of_cell? w _ hx176_3)).trans hx176_3; replace hx176_4 := (HB.out.cell (World.block_lt_of_cell? w _ hx176_4)).trans hx176_4; replace hx176_5 := (HB.out.cell (World.block_lt_of_cell? w _ hx176_5)).trans hx176_5; replace p176 := eq_true p176; replace q176 := eq_true q176; have p40 : 0 ≤ (((rd_T59 l0_1 x10_2).f1) : Int) := oZ; have q40 : (((rd_T59 l0_1 x10_2).f1) : Int) < ((x7_2.length : Int) : Int) := oZ; obtain ⟨go40, co40, eo40, gb40, gl40, cl40, HG40⟩ := Kd.R_form HO_7.out (by omega); (first | cases eo40 | (injection eo40 with ea_ en_ ec_; (first | subst ea_ | (injection ea_ with ea_; subst ea_)); subst ec_; clear en_)); have GB40 := Aside0.mk gb40; have GG40 := Aside0.mk HG40; clear gb40 gl40 HG40; obtain ⟨hx40_0, hf40_0⟩ := Kd.R_celln 0 HO_7.out (((rd_T59 l0_1 x10_2).f1) : Int) p40 q40; replace p40 := eq_true p40; replace q40 := eq_true q40; obtain ⟨hy47_, hz47_⟩ := Kd.R_celln 0 HO_7.out (((rd_T59 l0_1 x10_2).f1) : Int) oZ oZ; have HP47 := Kd.R_putg HO_7.out (((rd_T59 l0_1 x10_2).f1) : Int) (wrap64 ((wrap64 (-x10_2)) - 1))) | ((with_reducible refine gate_store (t := 2) (p := 123) rfl ?_); (try (rw [drewN_self w46]; generalize hq_ : World.drewN w46 _ = w46; have n0_ := Aside0.mk (Kd.R_at hq_ HO_6.out); have n1_ := Aside0.mk (Kd.R_at hq_ HO_7.out); have n2_ := Aside0.mk (Kd.R_at hq_ HO_8.out); have n3_ := Aside0.mk (below_at hq_ HB.out); clear hq_ HO_6 HO_7 HO_8 HB; have HO_6 := n0_; have HO_7 := n1_; have HO_8 := n2_; have HB := n3_; clear n0_ n1_ n2_ n3_; (try (obtain ⟨hy47_, hz47_⟩ := Kd.R_celln 0 HO_7.out (((rd_T59 l0_1 x10_2).f1) : Int) oZ oZ)); (try (have HP47 := Kd.R_putg HO_7.out (((rd_T59 l0_1 x10_2).f1) : Int) (wrap64 ((wrap64 (-x10_2)) - 1)))))); refine store_event (t := 2) (p := 123) (v := ?vo_w48) (w1 := (w46.setCell ⟨go40, (((rd_T59 l0_1 x10_2).f1) : Int).toNat, none⟩ (.int .i64 (wrap64 ((wrap64 (-x10_2)) - 1))))) ?hg ?ho ?hn ?hr ?_; (case ho => rfl); (case hg => rfl); (case hn => rfl); (case hr => first | (go_simp; done) | (go_simp; rfl)); intro w48 hw; have hg : w46.grownBy w48 (some go40) := (by rw [hw]; exact HP47.2); have hp_ : Kd.R (Kd.int .i64) 2 w48 w.heap.size (fun k_ => some k_ ≠ (.slice (some ad167) x6_2.length co44 : Value).ownBlock) (.slice (some ⟨go40, 0, none⟩) x7_2.length co40) y177 := (by rw [hw, Ny177.out]; exact HP47.1); clear HP47; have n0_ := Aside0.mk (Kd.R_after (v := (.slice (some ⟨go40, 0, none⟩) x7_2.length co40)) (v1 := (.slice (some ⟨go40, 0, none⟩) x7_2.length co40)) (ok := (fun _ => True)) (Kd.rZ (Kd.R_mono HO_6.out (fun _ hk => ⟨trivial, hk⟩))) hg (.inl rfl)); have n1_ := Aside0.mk (hp_); have n2_ := Aside0.mk (Kd.R_over' (v := (.slice (some ⟨go40, 0, none⟩) x7_2.length co40)) (Kd.rZ HO_8.out) (Kd.R_typed HO_7.out) (by decide) hg); have n3_ := Aside0.mk ((by rw [hw]; exact below_set (HB.out) GB40.out : Below w.heap.size w w48)); clear HO_6; clear HO_7; clear HO_8; clear HB; have HO_6 := n0_; have HO_7 := n1_; have HO_8 := n2_; have HB := n3_; clear n0_ n1_ n2_ n3_; clear hg hw hp_; have p178 : 0 ≤ (x10_2 : Int) := oZ; have q178 : x10_2 < (l0_1.length : Int) := oZ; obtain ⟨ad178, e178, hx178_0, hx178_1, hx178_2, hx178_3, hx178_4, hx178_5⟩ := at_T59 HR0_1.out x10_2 p178 q178; obtain rfl : ad165 = ad178 := (by injection e178); replace hx178_0 := (HB.out.cell (World.block_lt_of_cell? w _ hx178_0)).trans hx178_0; replace hx178_1 := (HB.out.cell (World.block_lt_of_cell? w _ hx178_1)).trans hx178_1; replace hx178_2 := (HB.out.cell (World.block_lt_of_cell? w _ hx178_2)).trans hx178_2; replace hx178_3 := (HB.out.cell (World.block_lt_of_cell? w _ hx178_3)).trans hx178_3; replace hx178_4 := (HB.out.cell (World.block_lt_of_cell? w _ hx178_4)).trans hx178_4; replace hx178_5 := (HB.out.cell (World.block_lt_of_cell? w _ hx178_5)).trans hx178_5; replace p178 := eq_true p178; replace q178 := eq_true q178) | ((with_reducible refine gate_builtin (b := .append) (xs := #[.tmp 124, .tmp 129]) rfl ?_); at_builtin; refine Kd.R_append (Kd.int .i64) (w0 := w) w.heap.size rfl (.tmp 124) (.tmp 129) 22 2 (.int .i64 0) 8 rfl Try.underlying22 info2 rfl (by decide) (by omega) (.slice (some ad167) x6_2.length co44) x6_2 ((rd_T59 l0_1 x10_2).f1) [.int .i64 ((rd_T59 l0_1 x10_2).f1)] (fun k_ => some k_ ≠ (.slice (some ⟨go40, 0, none⟩) x7_2.length co40 : Value).ownBlock) (fun _ => False) rfl rfl ?aP (fun _ hk => hk.elim) ?aF ?aO ?aB ?aS ?aL ?_; (case aP => exact rfl); (case aB => exact bZ); (case aF => exact (fun k_ hk => Kd.fresh' (Kd.R_lt (Kd.rZ HO_7.out)) k_ hk)); (case aO => exact (Kd.rZ (Kd.R_mono HO_6.out (fun _ hk => hk.2)))); (case aS => exact bsZ); (case aL => have := LMc41.out; omega); intro v180 w49 ho hb hg hat; rw [← Ny179.out] at ho; have n0_ := Aside0.mk (Kd.R_after (ok := (fun _ => True)) (Kd.rZ (Kd.R_mono HO_7.out (fun _ hk => ⟨trivial, hk⟩))) hg hat); have n1_ := Aside0.mk (Kd.R_over' (Kd.rZ HO_8.out) (Kd.R_typed (Kd.rZ HO_6.out)) (by decide) hg); have n2_ := Aside0.mk (hb); have n3_ := Aside0.mk (ho); clear HO_7; clear HO_8; clear HB; clear HO_6; have HO_7 := n0_; have HO_8 := n1_; have HB := n2_; have HO181 := n3_; clear n0_ n1_ n2_ n3_; clear ho hb hg hat)); try go_quiet (fail))
                         (try simp only [← hl8_2])
                         go_roundg k2
                         case measure => have := HK1.out; have := HK2.out; omega
                         case rel => exact ⟨(y179), (y177), (y175), (wrap64 (x10_2 + 1)), sZ, H', ⟨by have := HK1.out; have := HK2.out; omega⟩, ⟨by (try simp only [hl8_1]); (try simp only [hl8_2]); (with_reducible repeat (first | apply Kd.R_alloc | apply Kd.R_drewN | apply Kd.R_drew)); exact HO181.out⟩, ⟨by (try simp only [hl8_1]); (try simp only [hl8_2]); (with_reducible repeat (first | apply Kd.R_alloc | apply Kd.R_drewN | apply Kd.R_drew)); exact Kd.R_mono HO_7.out (fun _ hk => hk.2)⟩, ⟨by (try simp only [hl8_1]); (try simp only [hl8_2]); (with_reducible repeat (first | apply Kd.R_alloc | apply Kd.R_drewN | apply Kd.R_drew)); exact HO_8.out⟩, ⟨bZ⟩⟩
                        ·rw [if_neg c41] at H
                         exact absurd H (by simp)
                       ·rw [if_neg c39] at H
                        exact absurd H (by simp)
                     ·rw [if_neg c32] at H
                      exact absurd H (by simp)
                    ·rw [if_neg c31] at H
                     exact absurd H (by simp)
                   ·rw [if_neg c30] at H
                    have c30b0 : (((rd_T59 l0_1 x10_2).f2) == (rd x6_2 x9_1)) = false := beq_eq_false_iff_ne.mpr c30
                    have c30b1 : (((rd_T59 l0_1 x10_2).f2) != (rd x6_2 x9_1)) = true := bne_iff_ne.mpr c30
                    have H' := Aside0.mk H
                    clear H
                    have hvx50 := (HB.out.cell (World.block_lt_of_cell? w _ hvw0_1)).trans hvw0_1
                    have hvx51 := (HB.out.cell (World.block_lt_of_cell? w _ hvw0_1)).trans hvw0_1
                    have p165 : 0 ≤ (x10_2 : Int) := oZ
                    have q165 : x10_2 < (l0_1.length : Int) := oZ
                    obtain ⟨ad165, e165, hx165_0, hx165_1, hx165_2, hx165_3, hx165_4, hx165_5⟩ := at_T59 HR0_1.out x10_2 p165 q165
                    cases e165
                    replace hx165_0 := (HB.out.cell (World.block_lt_of_cell? w _ hx165_0)).trans hx165_0
                    replace hx165_1 := (HB.out.cell (World.block_lt_of_cell? w _ hx165_1)).trans hx165_1
                    replace hx165_2 := (HB.out.cell (World.block_lt_of_cell? w _ hx165_2)).trans hx165_2
                    replace hx165_3 := (HB.out.cell (World.block_lt_of_cell? w _ hx165_3)).trans hx165_3
                    replace hx165_4 := (HB.out.cell (World.block_lt_of_cell? w _ hx165_4)).trans hx165_4
                    replace hx165_5 := (HB.out.cell (World.block_lt_of_cell? w _ hx165_5)).trans hx165_5
                    replace p165 := eq_true p165
                    replace q165 := eq_true q165
                    have p166 : 0 ≤ (x10_2 : Int) := oZ
                    have q166 : x10_2 < (l0_1.length : Int) := oZ
                    obtain ⟨ad166, e166, hx166_0, hx166_1, hx166_2, hx166_3, hx166_4, hx166_5⟩ := at_T59 HR0_1.out x10_2 p166 q166
                    obtain rfl : ad165 = ad166 := (by injection e166)
                    replace hx166_0 := (HB.out.cell (World.block_lt_of_cell? w _ hx166_0)).trans hx166_0
                    replace hx166_1 := (HB.out.cell (World.block_lt_of_cell? w _ hx166_1)).trans hx166_1
                    replace hx166_2 := (HB.out.cell (World.block_lt_of_cell? w _ hx166_2)).trans hx166_2
                    replace hx166_3 := (HB.out.cell (World.block_lt_of_cell? w _ hx166_3)).trans hx166_3
                    replace hx166_4 := (HB.out.cell (World.block_lt_of_cell? w _ hx166_4)).trans hx166_4
                    replace hx166_5 := (HB.out.cell (World.block_lt_of_cell? w _ hx166_5)).trans hx166_5
                    replace p166 := eq_true p166
                    replace q166 := eq_true q166
                    obtain ⟨Ao52, co52, eo52⟩ := Kd.R_slice HO_6.out
                    subst eo52
                    have p167 : 0 ≤ (x9_1 : Int) := oZ
                    have q167 : x9_1 < (x6_2.length : Int) := oZ
                    obtain ⟨ad167, e167, hx167_0⟩ := Kd.at_int (Kd.R_reads' HO_6.out).2.2 x9_1 p167 q167
                    cases e167
                    replace p167 := eq_true p167
                    replace q167 := eq_true q167
                    have p168 : 0 ≤ (x10_2 : Int) := oZ
                    have q168 : x10_2 < (l0_1.length : Int) := oZ
                    obtain ⟨ad168, e168, hx168_0, hx168_1, hx168_2, hx168_3, hx168_4, hx168_5⟩ := at_T59 HR0_1.out x10_2 p168 q168
                    obtain rfl : ad165 = ad168 := (by injection e168)
                    replace hx168_0 := (HB.out.cell (World.block_lt_of_cell? w _ hx168_0)).trans hx168_0
                    replace hx168_1 := (HB.out.cell (World.block_lt_of_cell? w _ hx168_1)).trans hx168_1
                    replace hx168_2 := (HB.out.cell (World.block_lt_of_cell? w _ hx168_2)).trans hx168_2
                    replace hx168_3 := (HB.out.cell (World.block_lt_of_cell? w _ hx168_3)).trans hx168_3
                    replace hx168_4 := (HB.out.cell (World.block_lt_of_cell? w _ hx168_4)).trans hx168_4
                    replace hx168_5 := (HB.out.cell (World.block_lt_of_cell? w _ hx168_5)).trans hx168_5
                    replace p168 := eq_true p168
                    replace q168 := eq_true q168
                    have p169 : 0 ≤ (((rd_T59 l0_1 x10_2).f2) : Int) := oZ
                    have q169 : ((rd_T59 l0_1 x10_2).f2) < (x8_2.length : Int) := oZ
                    obtain ⟨ad169, e169, hx169_0⟩ := Kd.at_bool (Kd.R_reads' HO_8.out).2.2 ((rd_T59 l0_1 x10_2).f2) p169 q169
                    (try rw [← Nbq28.out] at hx169_0)
                    obtain rfl : (⟨go8, 0, none⟩ : Addr) = ad169 := (by injection e169)
                    (first | simp only [add_plain] at hx169_0 | simp only [add_at] at hx169_0 | simp only [Addr.add, Nat.zero_add] at hx169_0 | skip)
                    replace p169 := eq_true p169
                    replace q169 := eq_true q169
                    have p170 : 0 ≤ (x10_2 : Int) := oZ
                    have q170 : x10_2 < (l0_1.length : Int) := oZ
                    obtain ⟨ad170, e170, hx170_0, hx170_1, hx170_2, hx170_3, hx170_4, hx170_5⟩ := at_T59 HR0_1.out x10_2 p170 q170
                    obtain rfl : ad165 = ad170 := (by injection e170)
                    replace hx170_0 := (HB.out.cell (World.block_lt_of_cell? w _ hx170_0)).trans hx170_0
                    replace hx170_1 := (HB.out.cell (World.block_lt_of_cell? w _ hx170_1)).trans hx170_1
                    replace hx170_2 := (HB.out.cell (World.block_lt_of_cell? w _ hx170_2)).trans hx170_2
                    replace hx170_3 := (HB.out.cell (World.block_lt_of_cell? w _ hx170_3)).trans hx170_3
                    replace hx170_4 := (HB.out.cell (World.block_lt_of_cell? w _ hx170_4)).trans hx170_4
                    replace hx170_5 := (HB.out.cell (World.block_lt_of_cell? w _ hx170_5)).trans hx170_5
                    replace p170 := eq_true p170
                    replace q170 := eq_true q170
                    have p171 : 0 ≤ (x9_1 : Int) := oZ
                    have q171 : x9_1 < (x6_2.length : Int) := oZ
                    obtain ⟨ad171, e171, hx171_0⟩ := Kd.at_int (Kd.R_reads' HO_6.out).2.2 x9_1 p171 q171
                    obtain rfl : ad167 = ad171 := (by injection e171)
                    replace p171 := eq_true p171
                    replace q171 := eq_true q171
                    iterate 5 (go_wp2; try go_quiet (fail))
                    (try simp only [← hl8_2])
                    go_roundg k2
                    case measure => have := HK1.out; have := HK2.out; omega
                    case rel => exact ⟨(x6_2), (x7_2), (x8_2), (wrap64 (x10_2 + 1)), sZ, H', ⟨by have := HK1.out; have := HK2.out; omega⟩, ⟨by (try simp only [hl8_1]); (try simp only [hl8_2]); (with_reducible repeat (first | apply Kd.R_alloc | apply Kd.R_drewN | apply Kd.R_drew)); exact HO_6.out⟩, ⟨by (try simp only [hl8_1]); (try simp only [hl8_2]); (with_reducible repeat (first | apply Kd.R_alloc | apply Kd.R_drewN | apply Kd.R_drew)); exact HO_7.out⟩, ⟨by (try simp only [hl8_1]); (try simp only [hl8_2]); (with_reducible repeat (first | apply Kd.R_alloc | apply Kd.R_drewN | apply Kd.R_drew)); exact HO_8.out⟩, ⟨bZ⟩⟩
                  ·replace c29 := Bool.eq_false_iff.mpr c29
                   subst c29
                   have H1 : ((some (x8_2.set (((rd_T59 l0_1 x10_2).f2) : Int).toNat true : List Bool)).bind fun y183 => (if ((rd_T59 l0_1 x10_2).f2) < (x7_2.length : Int) then ((some (x7_2.set (((rd_T59 l0_1 x10_2).f2) : Int).toNat (wrap64 (x10_2 + 1)) : List Int)).bind fun y185 => (if x6_2.length < 17592186044416 then ((some (x6_2 ++ [(rd_T59 l0_1 x10_2).f2] : List Int)).bind fun y187 => (if x9_1 < (y187.length : Int) then (if ((rd_T59 l0_1 x10_2).f2) = (rd y187 x9_1) then (if 0 ≤ ((rd_T59 l0_1 x10_2).f1) then (if ((rd_T59 l0_1 x10_2).f1) < (x8_2.length : Int) then (if (rdOf false y183 ((rd_T59 l0_1 x10_2).f1) = true) then (spec_l07Order.l1 k2 y187 y185 y183 x9_1 (wrap64 (x10_2 + 1)) l0_0 l0_1) else (if ((rd_T59 l0_1 x10_2).f1) < (x7_2.length : Int) then (if y187.length < 17592186044416 then (spec_l07Order.l1 k2 (y187 ++ [(rd_T59 l0_1 x10_2).f1]) (y185.set (((rd_T59 l0_1 x10_2).f1) : Int).toNat (wrap64 ((wrap64 (-x10_2)) - 1))) (y183.set (((rd_T59 l0_1 x10_2).f1) : Int).toNat true) x9_1 (wrap64 (x10_2 + 1)) l0_0 l0_1) else (none)) else (none))) else (none)) else (none)) else (spec_l07Order.l1 k2 y187 y185 y183 x9_1 (wrap64 (x10_2 + 1)) l0_0 l0_1)) else (none))) else (none))) else (none))) = some (r1, r2) := by rw [if_neg (show ¬ (false = true) by decide)] at H; exact H
                   clear H
                   have H := H1
                   clear H1
                   obtain ⟨y183, hy183⟩ : ∃ y_ : List Bool, y_ = (x8_2.set (((rd_T59 l0_1 x10_2).f2) : Int).toNat true) := ⟨_, rfl⟩
                   replace H : (if ((rd_T59 l0_1 x10_2).f2) < (x7_2.length : Int) then ((some (x7_2.set (((rd_T59 l0_1 x10_2).f2) : Int).toNat (wrap64 (x10_2 + 1)) : List Int)).bind fun y185 => (if x6_2.length < 17592186044416 then ((some (x6_2 ++ [(rd_T59 l0_1 x10_2).f2] : List Int)).bind fun y187 => (if x9_1 < (y187.length : Int) then (if ((rd_T59 l0_1 x10_2).f2) = (rd y187 x9_1) then (if 0 ≤ ((rd_T59 l0_1 x10_2).f1) then (if ((rd_T59 l0_1 x10_2).f1) < (x8_2.length : Int) then (if (rdOf false y183 ((rd_T59 l0_1 x10_2).f1) = true) then (spec_l07Order.l1 k2 y187 y185 y183 x9_1 (wrap64 (x10_2 + 1)) l0_0 l0_1) else (if ((rd_T59 l0_1 x10_2).f1) < (x7_2.length : Int) then (if y187.length < 17592186044416 then (spec_l07Order.l1 k2 (y187 ++ [(rd_T59 l0_1 x10_2).f1]) (y185.set (((rd_T59 l0_1 x10_2).f1) : Int).toNat (wrap64 ((wrap64 (-x10_2)) - 1))) (y183.set (((rd_T59 l0_1 x10_2).f1) : Int).toNat true) x9_1 (wrap64 (x10_2 + 1)) l0_0 l0_1) else (none)) else (none))) else (none)) else (none)) else (spec_l07Order.l1 k2 y187 y185 y183 x9_1 (wrap64 (x10_2 + 1)) l0_0 l0_1)) else (none))) else (none))) else (none)) = some (r1, r2) := by first | (rw [hy183]; with_reducible exact H) | (have H2_ := (Option.bind_some _ _).symm.trans H; rw [hy183]; with_reducible exact H2_) | (have H2_ := (Option.bind_some _ _).symm.trans H; with_reducible exact H2_) | with_reducible exact H | (rw [hy183]; exact H) | exact H
                   have Ny183 := Aside0.mk hy183
                   clear hy183
                   by_cases c54 : ((rd_T59 l0_1 x10_2).f2) < (x7_2.length : Int)
                   ·rw [if_pos c54] at H
                    have c54b0 : decide (((rd_T59 l0_1 x10_2).f2) < (x7_2.length : Int)) = true := decide_eq_true c54
                    clear c54
                    obtain ⟨y185, hy185⟩ : ∃ y_ : List Int, y_ = (x7_2.set (((rd_T59 l0_1 x10_2).f2) : Int).toNat (wrap64 (x10_2 + 1))) := ⟨_, rfl⟩
                    replace H : (if x6_2.length < 17592186044416 then ((some (x6_2 ++ [(rd_T59 l0_1 x10_2).f2] : List Int)).bind fun y187 => (if x9_1 < (y187.length : Int) then (if ((rd_T59 l0_1 x10_2).f2) = (rd y187 x9_1) then (if 0 ≤ ((rd_T59 l0_1 x10_2).f1) then (if ((rd_T59 l0_1 x10_2).f1) < (x8_2.length : Int) then (if (rdOf false y183 ((rd_T59 l0_1 x10_2).f1) = true) then (spec_l07Order.l1 k2 y187 y185 y183 x9_1 (wrap64 (x10_2 + 1)) l0_0 l0_1) else (if ((rd_T59 l0_1 x10_2).f1) < (x7_2.length : Int) then (if y187.length < 17592186044416 then (spec_l07Order.l1 k2 (y187 ++ [(rd_T59 l0_1 x10_2).f1]) (y185.set (((rd_T59 l0_1 x10_2).f1) : Int).toNat (wrap64 ((wrap64 (-x10_2)) - 1))) (y183.set (((rd_T59 l0_1 x10_2).f1) : Int).toNat true) x9_1 (wrap64 (x10_2 + 1)) l0_0 l0_1) else (none)) else (none))) else (none)) else (none)) else (spec_l07Order.l1 k2 y187 y185 y183 x9_1 (wrap64 (x10_2 + 1)) l0_0 l0_1)) else (none))) else (none)) = some (r1, r2) := by first | (rw [hy185]; with_reducible exact H) | (have H2_ := (Option.bind_some _ _).symm.trans H; rw [hy185]; with_reducible exact H2_) | (have H2_ := (Option.bind_some _ _).symm.trans H; with_reducible exact H2_) | with_reducible exact H | (rw [hy185]; exact H) | exact H
                    have Ny185 := Aside0.mk hy185
                    clear hy185
                    by_cases c56 : x6_2.length < 17592186044416
                    ·rw [if_pos c56] at H
                     have LMc56 := Aside0.mk c56
                     clear c56
                     obtain ⟨y187, hy187⟩ : ∃ y_ : List Int, y_ = (x6_2 ++ [(rd_T59 l0_1 x10_2).f2]) := ⟨_, rfl⟩
                     replace H : (if x9_1 < (y187.length : Int) then (if ((rd_T59 l0_1 x10_2).f2) = (rd y187 x9_1) then (if 0 ≤ ((rd_T59 l0_1 x10_2).f1) then (if ((rd_T59 l0_1 x10_2).f1) < (x8_2.length : Int) then (if (rdOf false y183 ((rd_T59 l0_1 x10_2).f1) = true) then (spec_l07Order.l1 k2 y187 y185 y183 x9_1 (wrap64 (x10_2 + 1)) l0_0 l0_1) else (if ((rd_T59 l0_1 x10_2).f1) < (x7_2.length : Int) then (if y187.length < 17592186044416 then (spec_l07Order.l1 k2 (y187 ++ [(rd_T59 l0_1 x10_2).f1]) (y185.set (((rd_T59 l0_1 x10_2).f1) : Int).toNat (wrap64 ((wrap64 (-x10_2)) - 1))) (y183.set (((rd_T59 l0_1 x10_2).f1) : Int).toNat true) x9_1 (wrap64 (x10_2 + 1)) l0_0 l0_1) else (none)) else (none))) else (none)) else (none)) else (spec_l07Order.l1 k2 y187 y185 y183 x9_1 (wrap64 (x10_2 + 1)) l0_0 l0_1)) else (none)) = some (r1, r2) := by first | (rw [hy187]; with_reducible exact H) | (have H2_ := (Option.bind_some _ _).symm.trans H; rw [hy187]; with_reducible exact H2_) | (have H2_ := (Option.bind_some _ _).symm.trans H; with_reducible exact H2_) | with_reducible exact H | (rw [hy187]; exact H) | exact H
                     have Ny187 := Aside0.mk hy187
                     clear hy187
                     by_cases c57 : x9_1 < (y187.length : Int)
                     ·rw [if_pos c57] at H
                      have c57b0 : decide (x9_1 < (y187.length : Int)) = true := decide_eq_true c57
                      clear c57
                      by_cases c58 : ((rd_T59 l0_1 x10_2).f2) = (rd y187 x9_1)
                      ·rw [if_pos c58] at H
                       have c58b0 : (((rd_T59 l0_1 x10_2).f2) == (rd y187 x9_1)) = true := beq_iff_eq.mpr c58
                       have c58b1 : (((rd_T59 l0_1 x10_2).f2) != (rd y187 x9_1)) = false := bne_eq_false_iff_eq.mpr c58
                       clear c58
                       by_cases c59 : 0 ≤ ((rd_T59 l0_1 x10_2).f1)
                       ·rw [if_pos c59] at H
                        have c59b0 : decide (0 ≤ ((rd_T59 l0_1 x10_2).f1)) = true := decide_eq_true c59
                        clear c59
                        by_cases c60 : ((rd_T59 l0_1 x10_2).f1) < (x8_2.length : Int)
                        ·rw [if_pos c60] at H
                         have c60b0 : decide (((rd_T59 l0_1 x10_2).f1) < (x8_2.length : Int)) = true := decide_eq_true c60
                         clear c60
                         obtain ⟨bq61, hbq61⟩ : ∃ b_ : Bool, b_ = (rdOf false y183 ((rd_T59 l0_1 x10_2).f1)) := ⟨_, rfl⟩
                         replace H : (if (bq61 = true) then (spec_l07Order.l1 k2 y187 y185 y183 x9_1 (wrap64 (x10_2 + 1)) l0_0 l0_1) else (if ((rd_T59 l0_1 x10_2).f1) < (x7_2.length : Int) then (if y187.length < 17592186044416 then (spec_l07Order.l1 k2 (y187 ++ [(rd_T59 l0_1 x10_2).f1]) (y185.set (((rd_T59 l0_1 x10_2).f1) : Int).toNat (wrap64 ((wrap64 (-x10_2)) - 1))) (y183.set (((rd_T59 l0_1 x10_2).f1) : Int).toNat true) x9_1 (wrap64 (x10_2 + 1)) l0_0 l0_1) else (none)) else (none))) = some (r1, r2) := by rw [← hbq61] at H; exact H
                         have Nbq61 := Aside0.mk hbq61
                         clear hbq61
                         by_cases c62 : (bq61 = true)
                         ·subst c62
                          have H1 : (spec_l07Order.l1 k2 y187 y185 y183 x9_1 (wrap64 (x10_2 + 1)) l0_0 l0_1) = some (r1, r2) := by rw [if_pos rfl] at H; exact H
                          clear H
                          have H := H1
                          clear H1
                          have H' := Aside0.mk H
                          clear H
                          have hvx63 := (HB.out.cell (World.block_lt_of_cell? w _ hvw0_1)).trans hvw0_1
                          have hvx64 := (HB.out.cell (World.block_lt_of_cell? w _ hvw0_1)).trans hvw0_1
                          have p165 : 0 ≤ (x10_2 : Int) := oZ
                          have q165 : x10_2 < (l0_1.length : Int) := oZ
                          obtain ⟨ad165, e165, hx165_0, hx165_1, hx165_2, hx165_3, hx165_4, hx165_5⟩ := at_T59 HR0_1.out x10_2 p165 q165
                          cases e165
                          replace hx165_0 := (HB.out.cell (World.block_lt_of_cell? w _ hx165_0)).trans hx165_0
                          replace hx165_1 := (HB.out.cell (World.block_lt_of_cell? w _ hx165_1)).trans hx165_1
                          replace hx165_2 := (HB.out.cell (World.block_lt_of_cell? w _ hx165_2)).trans hx165_2
                          replace hx165_3 := (HB.out.cell (World.block_lt_of_cell? w _ hx165_3)).trans hx165_3
                          replace hx165_4 := (HB.out.cell (World.block_lt_of_cell? w _ hx165_4)).trans hx165_4
                          replace hx165_5 := (HB.out.cell (World.block_lt_of_cell? w _ hx165_5)).trans hx165_5
                          replace p165 := eq_true p165
                          replace q165 := eq_true q165
                          have p166 : 0 ≤ (x10_2 : Int) := oZ
                          have q166 : x10_2 < (l0_1.length : Int) := oZ
                          obtain ⟨ad166, e166, hx166_0, hx166_1, hx166_2, hx166_3, hx166_4, hx166_5⟩ := at_T59 HR0_1.out x10_2 p166 q166
                          obtain rfl : ad165 = ad166 := (by injection e166)
                          replace hx166_0 := (HB.out.cell (World.block_lt_of_cell? w _ hx166_0)).trans hx166_0
                          replace hx166_1 := (HB.out.cell (World.block_lt_of_cell? w _ hx166_1)).trans hx166_1
                          replace hx166_2 := (HB.out.cell (World.block_lt_of_cell? w _ hx166_2)).trans hx166_2
                          replace hx166_3 := (HB.out.cell (World.block_lt_of_cell? w _ hx166_3)).trans hx166_3
                          replace hx166_4 := (HB.out.cell (World.block_lt_of_cell? w _ hx166_4)).trans hx166_4
                          replace hx166_5 := (HB.out.cell (World.block_lt_of_cell? w _ hx166_5)).trans hx166_5
                          replace p166 := eq_true p166
                          replace q166 := eq_true q166
                          obtain ⟨Ao65, co65, eo65⟩ := Kd.R_slice HO_6.out
                          subst eo65
                          have p167 : 0 ≤ (x9_1 : Int) := oZ
                          have q167 : x9_1 < (x6_2.length : Int) := oZ
                          obtain ⟨ad167, e167, hx167_0⟩ := Kd.at_int (Kd.R_reads' HO_6.out).2.2 x9_1 p167 q167
                          cases e167
                          replace p167 := eq_true p167
                          replace q167 := eq_true q167
                          have p168 : 0 ≤ (x10_2 : Int) := oZ
                          have q168 : x10_2 < (l0_1.length : Int) := oZ
                          obtain ⟨ad168, e168, hx168_0, hx168_1, hx168_2, hx168_3, hx168_4, hx168_5⟩ := at_T59 HR0_1.out x10_2 p168 q168
                          obtain rfl : ad165 = ad168 := (by injection e168)
                          replace hx168_0 := (HB.out.cell (World.block_lt_of_cell? w _ hx168_0)).trans hx168_0
                          replace hx168_1 := (HB.out.cell (World.block_lt_of_cell? w _ hx168_1)).trans hx168_1
                          replace hx168_2 := (HB.out.cell (World.block_lt_of_cell? w _ hx168_2)).trans hx168_2
                          replace hx168_3 := (HB.out.cell (World.block_lt_of_cell? w _ hx168_3)).trans hx168_3
                          replace hx168_4 := (HB.out.cell (World.block_lt_of_cell? w _ hx168_4)).trans hx168_4
                          replace hx168_5 := (HB.out.cell (World.block_lt_of_cell? w _ hx168_5)).trans hx168_5
                          replace p168 := eq_true p168
                          replace q168 := eq_true q168
                          have p169 : 0 ≤ (((rd_T59 l0_1 x10_2).f2) : Int) := oZ
                          have q169 : ((rd_T59 l0_1 x10_2).f2) < (x8_2.length : Int) := oZ
                          obtain ⟨ad169, e169, hx169_0⟩ := Kd.at_bool (Kd.R_reads' HO_8.out).2.2 ((rd_T59 l0_1 x10_2).f2) p169 q169
                          (try rw [← Nbq28.out] at hx169_0)
                          (try rw [← Nbq61.out] at hx169_0)
                          obtain rfl : (⟨go8, 0, none⟩ : Addr) = ad169 := (by injection e169)
                          (first | simp only [add_plain] at hx169_0 | simp only [add_at] at hx169_0 | simp only [Addr.add, Nat.zero_add] at hx169_0 | skip)
                          replace p169 := eq_true p169
                          replace q169 := eq_true q169
                          have p182 : 0 ≤ (x10_2 : Int) := oZ
                          have q182 : x10_2 < (l0_1.length : Int) := oZ
                          obtain ⟨ad182, e182, hx182_0, hx182_1, hx182_2, hx182_3, hx182_4, hx182_5⟩ := at_T59 HR0_1.out x10_2 p182 q182
                          obtain rfl : ad165 = ad182 := (by injection e182)
                          replace hx182_0 := (HB.out.cell (World.block_lt_of_cell? w _ hx182_0)).trans hx182_0
                          replace hx182_1 := (HB.out.cell (World.block_lt_of_cell? w _ hx182_1)).trans hx182_1
                          replace hx182_2 := (HB.out.cell (World.block_lt_of_cell? w _ hx182_2)).trans hx182_2
                          replace hx182_3 := (HB.out.cell (World.block_lt_of_cell? w _ hx182_3)).trans hx182_3
                          replace hx182_4 := (HB.out.cell (World.block_lt_of_cell? w _ hx182_4)).trans hx182_4
                          replace hx182_5 := (HB.out.cell (World.block_lt_of_cell? w _ hx182_5)).trans hx182_5
                          replace p182 := eq_true p182
                          replace q182 := eq_true q182
                          have p53 : 0 ≤ (((rd_T59 l0_1 x10_2).f2) : Int) := oZ
                          have q53 : (((rd_T59 l0_1 x10_2).f2) : Int) < ((x8_2.length : Int) : Int) := oZ
                          obtain ⟨hx53_0, hf53_0⟩ := Kd.R_celln false HO_8.out (((rd_T59 l0_1 x10_2).f2) : Int) p53 q53
                          replace p53 := eq_true p53
                          replace q53 := eq_true q53
                          have HP66 := Kd.R_putg HO_8.out (((rd_T59 l0_1 x10_2).f2) : Int) true
                          iterate 5 (go_wp2_with (first | ((with_reducible refine gate_store (t := 4) (p := 74) rfl ?_); (try (rw [drewN_self wr]; generalize hq_ : World.drewN wr _ = wr; have n0_ := Aside0.mk (Kd.R_at hq_ HO_6.out); have n1_ := Aside0.mk (Kd.R_at hq_ HO_7.out); have n2_ := Aside0.mk (Kd.R_at hq_ HO_8.out); have n3_ := Aside0.mk (below_at hq_ HB.out); clear hq_ HO_6 HO_7 HO_8 HB; have HO_6 := n0_; have HO_7 := n1_; have HO_8 := n2_; have HB := n3_; clear n0_ n1_ n2_ n3_; (try (have HP66 := Kd.R_putg HO_8.out (((rd_T59 l0_1 x10_2).f2) : Int) true)); (try (obtain ⟨hx53_0, hf53_0⟩ := Kd.R_celln false HO_8.out (((rd_T59 l0_1 x10_2).f2) : Int) (of_eq_true p53) (of_eq_true q53))))); refine store_event (t := 4) (p := 74) (v := ?vo_w67) (w1 := (wr.setCell ⟨go8, (((rd_T59 l0_1 x10_2).f2) : Int).toNat, none⟩ (.bool true))) ?hg ?ho ?hn ?hr ?_; (case ho => rfl); (case hg => rfl); (case hn => rfl); (case hr => first | (go_simp; done) | (go_simp; rfl)); intro w67 hw; have hg : wr.grownBy w67 (some go8) := (by rw [hw]; exact HP66.2); have hp_ : Kd.R Kd.bool 4 w67 w.heap.size (fun _ => True) (.slice (some ⟨go8, 0, none⟩) x8_2.length co8) y183 := (by rw [hw, Ny183.out]; exact HP66.1); clear HP66; have n0_ := Aside0.mk (Kd.R_over' (v := (.slice (some ⟨go8, 0, none⟩) x8_2.length co8)) (Kd.rZ HO_6.out) (Kd.R_typed HO_8.out) (by decide) hg); have n1_ := Aside0.mk (Kd.R_over' (v := (.slice (some ⟨go8, 0, none⟩) x8_2.length co8)) (Kd.rZ HO_7.out) (Kd.R_typed HO_8.out) (by decide) hg); have n2_ := Aside0.mk (hp_); have n3_ := Aside0.mk ((by rw [hw]; exact below_set (HB.out) GB8.out : Below w.heap.size w w67)); clear HO_6; clear HO_7; clear HO_8; clear HB; have HO_6 := n0_; have HO_7 := n1_; have HO_8 := n2_; have HB := n3_; clear n0_ n1_ n2_ n3_; clear hg hw hp_; have p184 : 0 ≤ (x10_2 : Int) := oZ; have q184 : x10_2 < (l0_1.length : Int) := oZ; obtain ⟨ad184, e184, hx184_0, hx184_1, hx184_2, hx184_3, hx184_4, hx184_5⟩ := at_T59 HR0_1.out x10_2 p184 q184; obtain rfl : ad165 = ad184 := (by injection e184); replace hx184_0 := (HB.out.cell (World.block_lt_of_cell? w _ hx184_0)).trans hx184_0; replace hx184_1 := (HB.out.cell (World.block_lt_of_cell? w _ hx184_1)).trans hx184_1; replace hx184_2 := (HB.out.cell (World.block_lt_of_cell? w _ hx184_2)).trans hx184_2; replace hx184_3 := (HB.out.cell (World.block_lt_of_cell? w _ hx184_3)).trans hx184_3; replace hx184_4 := (HB.out.cell (World.block_lt_of_cell? w _ hx184_4)).trans hx184_4; replace hx184_5 := (HB.out.cell (World.block_lt_of_cell? w _ hx184_5)).trans hx184_5; replace p184 := eq_true p184; replace q184 := eq_true q184; have p55 : 0 ≤ (((rd_T59 l0_1 x10_2).f2) : Int) := oZ; have q55 : (((rd_T59 l0_1 x10_2).f2) : Int) < ((x7_2.length : Int) : Int) := oZ; obtain ⟨go55, co55, eo55, gb55, gl55, cl55, HG55⟩ := Kd.R_form HO_7.out (by omega); (first | cases eo55 | (injection eo55 with ea_ en_ ec_; (first | subst ea_ | (injection ea_ with ea_; subst ea_)); subst ec_; clear en_)); have GB55 := Aside0.mk gb55; have GG55 := Aside0.mk HG55; clear gb55 gl55 HG55; obtain ⟨hx55_0, hf55_0⟩ := Kd.R_celln 0 HO_7.out (((rd_T59 l0_1 x10_2).f2) : Int) p55 q55; replace p55 := eq_true p55; replace q55 := eq_true q55; obtain ⟨hy68_, hz68_⟩ := Kd.R_celln 0 HO_7.out (((rd_T59 l0_1 x10_2).f2) : Int) oZ oZ; have HP68 := Kd.R_putg HO_7.out (((rd_T59 l0_1 x10_2).f2) : Int) (wrap64 (x10_2 + 1))) | ((with_reducible refine gate_store (t := 2) (p := 82) rfl ?_); (try (rw [drewN_self w67]; generalize hq_ : World.drewN w67 _ = w67; have n0_ := Aside0.mk (Kd.R_at hq_ HO_6.out); have n1_ := Aside0.mk (Kd.R_at hq_ HO_7.out); have n2_ := Aside0.mk (Kd.R_at hq_ HO_8.out); have n3_ := Aside0.mk (below_at hq_ HB.out); clear hq_ HO_6 HO_7 HO_8 HB; have HO_6 := n0_; have HO_7 := n1_; have HO_8 := n2_; have HB := n3_; clear n0_ n1_ n2_ n3_; (try (obtain ⟨hy68_, hz68_⟩ := Kd.R_celln 0 HO_7.out (((rd_T59 l0_1 x10_2).f2) : Int) oZ oZ)); (try (have HP68 := Kd.R_putg HO_7.out (((rd_T59 l0_1 x10_2).f2) : Int) (wrap64 (x10_2 + 1)))))); refine store_event (t := 2) (p := 82) (v := ?vo_w69) (w1 := (w67.setCell ⟨go55, (((rd_T59 l0_1 x10_2).f2) : Int).toNat, none⟩ (.int .i64 (wrap64 (x10_2 + 1))))) ?hg ?ho ?hn ?hr ?_; (case ho => rfl); (case hg => rfl); (case hn => rfl); (case hr => first | (go_simp; done) | (go_simp; rfl)); intro w69 hw; have hg : w67.grownBy w69 (some go55) := (by rw [hw]; exact HP68.2); have hp_ : Kd.R (Kd.int .i64) 2 w69 w.heap.size (fun k_ => some k_ ≠ (.slice (some ad167) x6_2.length co65 : Value).ownBlock) (.slice (some ⟨go55, 0, none⟩) x7_2.length co55) y185 := (by rw [hw, Ny185.out]; exact HP68.1); clear HP68; have n0_ := Aside0.mk (Kd.R_after (v := (.slice (some ⟨go55, 0, none⟩) x7_2.length co55)) (v1 := (.slice (some ⟨go55, 0, none⟩) x7_2.length co55)) (ok := (fun _ => True)) (Kd.rZ (Kd.R_mono HO_6.out (fun _ hk => ⟨trivial, hk⟩))) hg (.inl rfl)); have n1_ := Aside0.mk (hp_); have n2_ := Aside0.mk (Kd.R_over' (v := (.slice (some ⟨go55, 0, none⟩) x7_2.length co55)) (Kd.rZ HO_8.out) (Kd.R_typed HO_7.out) (by decide) hg); have n3_ := Aside0.mk ((by rw [hw]; exact below_set (HB.out) GB55.out : Below w.heap.size w w69)); clear HO_6; clear HO_7; clear HO_8; clear HB; have HO_6 := n0_; have HO_7 := n1_; have HO_8 := n2_; have HB := n3_; clear n0_ n1_ n2_ n3_; clear hg hw hp_; have p186 : 0 ≤ (x10_2 : Int) := oZ; have q186 : x10_2 < (l0_1.length : Int) := oZ; obtain ⟨ad186, e186, hx186_0, hx186_1, hx186_2, hx186_3, hx186_4, hx186_5⟩ := at_T59 HR0_1.out x10_2 p186 q186; obtain rfl : ad165 = ad186 := (by injection e186); replace hx186_0 := (HB.out.cell (World.block_lt_of_cell? w _ hx186_0)).trans hx186_0; replace hx186_1 := (HB.out.cell (World.block_lt_of_cell? w _ hx186_1)).trans hx186_1; replace hx186_2 := (HB.out.cell (World.block_lt_of_cell? w _ hx186_2)).trans hx186_2; replace hx186_3 := (HB.out.cell (World.block_lt_of_cell? w _ hx186_3)).trans hx186_3; replace hx186_4 := (HB.out.cell (World.block_lt_of_cell? w _ hx186_4)).trans hx186_4; replace hx186_5 := (HB.out.cell (World.block_lt_of_cell? w _ hx186_5)).trans hx186_5; replace p186 := eq_true p186; replace q186 := eq_true q186) | ((with_reducible refine gate_builtin (b := .append) (xs := #[.tmp 83, .tmp 88]) rfl ?_); at_builtin; refine Kd.R_append (Kd.int .i64) (w0 := w) w.heap.size rfl (.tmp 83) (.tmp 88) 22 2 (.int .i64 0) 8 rfl Try.underlying22 info2 rfl (by decide) (by omega) (.slice (some ad167) x6_2.length co65) x6_2 ((rd_T59 l0_1 x10_2).f2) [.int .i64 ((rd_T59 l0_1 x10_2).f2)] (fun k_ => some k_ ≠ (.slice (some ⟨go55, 0, none⟩) x7_2.length co55 : Value).ownBlock) (fun _ => False) rfl rfl ?aP (fun _ hk => hk.elim) ?aF ?aO ?aB ?aS ?aL ?_; (case aP => exact rfl); (case aB => exact bZ); (case aF => exact (fun k_ hk => Kd.fresh' (Kd.R_lt (Kd.rZ HO_7.out)) k_ hk)); (case aO => exact (Kd.rZ (Kd.R_mono HO_6.out (fun _ hk => hk.2)))); (case aS => exact bsZ); (case aL => have := LMc56.out; omega); intro v188 w70 ho hb hg hat; rw [← Ny187.out] at ho; have n0_ := Aside0.mk (Kd.R_after (ok := (fun _ => True)) (Kd.rZ (Kd.R_mono HO_7.out (fun _ hk => ⟨trivial, hk⟩))) hg hat); have n1_ := Aside0.mk (Kd.R_over' (Kd.rZ HO_8.out) (Kd.R_typed (Kd.rZ HO_6.out)) (by decide) hg); have n2_ := Aside0.mk (hb); have n3_ := Aside0.mk (ho); clear HO_7; clear HO_8; clear HB; clear HO_6; have HO_7 := n0_; have HO_8 := n1_; have HB := n2_; have HO189 := n3_; clear n0_ n1_ n2_ n3_; clear ho hb hg hat; have p190 : 0 ≤ (x10_2 : Int) := oZ; have q190 : x10_2 < (l0_1.length : Int) := oZ; obtain ⟨ad190, e190, hx190_0, hx190_1, hx190_2, hx190_3, hx190_4, hx190_5⟩ := at_T59 HR0_1.out x10_2 p190 q190; obtain rfl : ad165 = ad190 := (by injection e190); replace hx190_0 := (HB.out.cell (World.block_lt_of_cell? w _ hx190_0)).trans hx190_0; replace hx190_1 := (HB.out.cell (World.block_lt_of_cell? w _ hx190_1)).trans hx190_1; replace hx190_2 := (HB.out.cell (World.block_lt_of_cell? w _ hx190_2)).trans hx190_2; replace hx190_3 := (HB.out.cell (World.block_lt_of_cell? w _ hx190_3)).trans hx190_3; replace hx190_4 := (HB.out.cell (World.block_lt_of_cell? w _ hx190_4)).trans hx190_4; replace hx190_5 := (HB.out.cell (World.block_lt_of_cell? w _ hx190_5)).trans hx190_5; replace p190 := eq_true p190; replace q190 := eq_true q190; obtain ⟨Ao71, co71, eo71⟩ := Kd.R_slice HO189.out; subst eo71; have p191 : 0 ≤ (x9_1 : Int) := oZ; have q191 : x9_1 < (y187.length : Int) := oZ; obtain ⟨ad191, e191, hx191_0⟩ := Kd.at_int (Kd.R_reads' HO189.out).2.2 x9_1 p191 q191; cases e191; replace p191 := eq_true p191; replace q191 := eq_true q191; have p192 : 0 ≤ (x10_2 : Int) := oZ; have q192 : x10_2 < (l0_1.length : Int) := oZ; obtain ⟨ad192, e192, hx192_0, hx192_1, hx192_2, hx192_3, hx192_4, hx192_5⟩ := at_T59 HR0_1.out x10_2 p192 q192; obtain rfl : ad165 = ad192 := (by injection e192); replace hx192_0 := (HB.out.cell (World.block_lt_of_cell? w _ hx192_0)).trans hx192_0; replace hx192_1 := (HB.out.cell (World.block_lt_of_cell? w _ hx192_1)).trans hx192_1; replace hx192_2 := (HB.out.cell (World.block_lt_of_cell? w _ hx192_2)).trans hx192_2; replace hx192_3 := (HB.out.cell (World.block_lt_of_cell? w _ hx192_3)).trans hx192_3; replace hx192_4 := (HB.out.cell (World.block_lt_of_cell? w _ hx192_4)).trans hx192_4; replace hx192_5 := (HB.out.cell (World.block_lt_of_cell? w _ hx192_5)).trans hx192_5; replace p192 := eq_true p192; replace q192 := eq_true q192; have p193 : 0 ≤ (((rd_T59 l0_1 x10_2).f1) : Int) := oZ; have q193 : ((rd_T59 l0_1 x10_2).f1) < (y183.length : Int) := (by have h_ : (((rd_T59 l0_1 x10_2).f1) : Int) < ((x8_2.length : Int) : Int) := oZ; first | (have e_ := (Kd.R_reads' HO_8.out).1; omega) | simpa only [Ny183.out, List.length_set] using h_); have ql193 : ((((rd_T59 l0_1 x10_2).f1) : Int) < ((x8_2.length : Int) : Int)) = True := eq_true oZ; obtain ⟨ad193, e193, hx193_0⟩ := Kd.at_bool (Kd.R_reads' HO_8.out).2.2 ((rd_T59 l0_1 x10_2).f1) p193 q193; (try rw [← Nbq28.out] at hx193_0); (try rw [← Nbq61.out] at hx193_0); obtain rfl : (⟨go8, 0, none⟩ : Addr) = ad193 := (by injection e193); (first | simp only [add_plain] at hx193_0 | simp only [add_at] at hx193_0 | simp only [Addr.add, Nat.zero_add] at hx193_0 | skip); replace p193 := eq_true p193; replace q193 := eq_true q193)); try go_quiet (fail))
                          (try simp only [← hl8_2])
                          go_roundg k2
                          case measure => have := HK1.out; have := HK2.out; omega
                          case rel => exact ⟨(y187), (y185), (y183), (wrap64 (x10_2 + 1)), sZ, H', ⟨by have := HK1.out; have := HK2.out; omega⟩, ⟨by (try simp only [hl8_1]); (try simp only [hl8_2]); (with_reducible repeat (first | apply Kd.R_alloc | apply Kd.R_drewN | apply Kd.R_drew)); exact HO189.out⟩, ⟨by (try simp only [hl8_1]); (try simp only [hl8_2]); (with_reducible repeat (first | apply Kd.R_alloc | apply Kd.R_drewN | apply Kd.R_drew)); exact Kd.R_mono HO_7.out (fun _ hk => hk.2)⟩, ⟨by (try simp only [hl8_1]); (try simp only [hl8_2]); (with_reducible repeat (first | apply Kd.R_alloc | apply Kd.R_drewN | apply Kd.R_drew)); exact HO_8.out⟩, ⟨bZ⟩⟩
                         ·replace c62 := Bool.eq_false_iff.mpr c62
                          subst c62
                          have H1 : (if ((rd_T59 l0_1 x10_2).f1) < (x7_2.length : Int) then (if y187.length < 17592186044416 then (spec_l07Order.l1 k2 (y187 ++ [(rd_T59 l0_1 x10_2).f1]) (y185.set (((rd_T59 l0_1 x10_2).f1) : Int).toNat (wrap64 ((wrap64 (-x10_2)) - 1))) (y183.set (((rd_T59 l0_1 x10_2).f1) : Int).toNat true) x9_1 (wrap64 (x10_2 + 1)) l0_0 l0_1) else (none)) else (none)) = some (r1, r2) := by rw [if_neg (show ¬ (false = true) by decide)] at H; exact H
                          clear H
                          have H := H1
                          clear H1
                          obtain ⟨y195, hy195⟩ : ∃ y_ : List Bool, y_ = (y183.set (((rd_T59 l0_1 x10_2).f1) : Int).toNat true) := ⟨_, rfl⟩
                          replace H : (if ((rd_T59 l0_1 x10_2).f1) < (x7_2.length : Int) then (if y187.length < 17592186044416 then (spec_l07Order.l1 k2 (y187 ++ [(rd_T59 l0_1 x10_2).f1]) (y185.set (((rd_T59 l0_1 x10_2).f1) : Int).toNat (wrap64 ((wrap64 (-x10_2)) - 1))) y195 x9_1 (wrap64 (x10_2 + 1)) l0_0 l0_1) else (none)) else (none)) = some (r1, r2) := by first | (rw [hy195]; with_reducible exact H) | (have H2_ := (Option.bind_some _ _).symm.trans H; rw [hy195]; with_reducible exact H2_) | (have H2_ := (Option.bind_some _ _).symm.trans H; with_reducible exact H2_) | with_reducible exact H | (rw [hy195]; exact H) | exact H
                          have Ny195 := Aside0.mk hy195
                          clear hy195
                          by_cases c73 : ((rd_T59 l0_1 x10_2).f1) < (x7_2.length : Int)
                          ·rw [if_pos c73] at H
                           have c73b0 : decide (((rd_T59 l0_1 x10_2).f1) < (x7_2.length : Int)) = true := decide_eq_true c73
                           clear c73
                           obtain ⟨y197, hy197⟩ : ∃ y_ : List Int, y_ = (y185.set (((rd_T59 l0_1 x10_2).f1) : Int).toNat (wrap64 ((wrap64 (-x10_2)) - 1))) := ⟨_, rfl⟩
                           replace H : (if y187.length < 17592186044416 then (spec_l07Order.l1 k2 (y187 ++ [(rd_T59 l0_1 x10_2).f1]) y197 y195 x9_1 (wrap64 (x10_2 + 1)) l0_0 l0_1) else (none)) = some (r1, r2) := by first | (rw [hy197]; with_reducible exact H) | (have H2_ := (Option.bind_some _ _).symm.trans H; rw [hy197]; with_reducible exact H2_) | (have H2_ := (Option.bind_some _ _).symm.trans H; with_reducible exact H2_) | with_reducible exact H | (rw [hy197]; exact H) | exact H
                           have Ny197 := Aside0.mk hy197
                           clear hy197
                           by_cases c75 : y187.length < 17592186044416
                           ·rw [if_pos c75] at H
                            have LMc75 := Aside0.mk c75
                            clear c75
                            obtain ⟨y199, hy199⟩ : ∃ y_ : List Int, y_ = (y187 ++ [(rd_T59 l0_1 x10_2).f1]) := ⟨_, rfl⟩
                            replace H : (spec_l07Order.l1 k2 y199 y197 y195 x9_1 (wrap64 (x10_2 + 1)) l0_0 l0_1) = some (r1, r2) := by first | (rw [hy199]; with_reducible exact H) | (have H2_ := (Option.bind_some _ _).symm.trans H; rw [hy199]; with_reducible exact H2_) | (have H2_ := (Option.bind_some _ _).symm.trans H; with_reducible exact H2_) | with_reducible exact H | (rw [hy199]; exact H) | exact H
                            have Ny199 := Aside0.mk hy199
                            clear hy199
                            have H' := Aside0.mk H
                            clear H
                            have hvx76 := (HB.out.cell (World.block_lt_of_cell? w _ hvw0_1)).trans hvw0_1
                            have hvx77 := (HB.out.cell (World.block_lt_of_cell? w _ hvw0_1)).trans hvw0_1
                            have p165 : 0 ≤ (x10_2 : Int) := oZ
                            have q165 : x10_2 < (l0_1.length : Int) := oZ
                            obtain ⟨ad165, e165, hx165_0, hx165_1, hx165_2, hx165_3, hx165_4, hx165_5⟩ := at_T59 HR0_1.out x10_2 p165 q165
                            cases e165
                            replace hx165_0 := (HB.out.cell (World.block_lt_of_cell? w _ hx165_0)).trans hx165_0
                            replace hx165_1 := (HB.out.cell (World.block_lt_of_cell? w _ hx165_1)).trans hx165_1
                            replace hx165_2 := (HB.out.cell (World.block_lt_of_cell? w _ hx165_2)).trans hx165_2
                            replace hx165_3 := (HB.out.cell (World.block_lt_of_cell? w _ hx165_3)).trans hx165_3
                            replace hx165_4 := (HB.out.cell (World.block_lt_of_cell? w _ hx165_4)).trans hx165_4
                            replace hx165_5 := (HB.out.cell (World.block_lt_of_cell? w _ hx165_5)).trans hx165_5
                            replace p165 := eq_true p165
                            replace q165 := eq_true q165
                            have p166 : 0 ≤ (x10_2 : Int) := oZ
                            have q166 : x10_2 < (l0_1.length : Int) := oZ
                            obtain ⟨ad166, e166, hx166_0, hx166_1, hx166_2, hx166_3, hx166_4, hx166_5⟩ := at_T59 HR0_1.out x10_2 p166 q166
                            obtain rfl : ad165 = ad166 := (by injection e166)
                            replace hx166_0 := (HB.out.cell (World.block_lt_of_cell? w _ hx166_0)).trans hx166_0
                            replace hx166_1 := (HB.out.cell (World.block_lt_of_cell? w _ hx166_1)).trans hx166_1
                            replace hx166_2 := (HB.out.cell (World.block_lt_of_cell? w _ hx166_2)).trans hx166_2
                            replace hx166_3 := (HB.out.cell (World.block_lt_of_cell? w _ hx166_3)).trans hx166_3
                            replace hx166_4 := (HB.out.cell (World.block_lt_of_cell? w _ hx166_4)).trans hx166_4
                            replace hx166_5 := (HB.out.cell (World.block_lt_of_cell? w _ hx166_5)).trans hx166_5
                            replace p166 := eq_true p166
                            replace q166 := eq_true q166
                            obtain ⟨Ao78, co78, eo78⟩ := Kd.R_slice HO_6.out
                            subst eo78
                            have p167 : 0 ≤ (x9_1 : Int) := oZ
                            have q167 : x9_1 < (x6_2.length : Int) := oZ
                            obtain ⟨ad167, e167, hx167_0⟩ := Kd.at_int (Kd.R_reads' HO_6.out).2.2 x9_1 p167 q167
                            cases e167
                            replace p167 := eq_true p167
                            replace q167 := eq_true q167
                            have p168 : 0 ≤ (x10_2 : Int) := oZ
                            have q168 : x10_2 < (l0_1.length : Int) := oZ
                            obtain ⟨ad168, e168, hx168_0, hx168_1, hx168_2, hx168_3, hx168_4, hx168_5⟩ := at_T59 HR0_1.out x10_2 p168 q168
                            obtain rfl : ad165 = ad168 := (by injection e168)
                            replace hx168_0 := (HB.out.cell (World.block_lt_of_cell? w _ hx168_0)).trans hx168_0
                            replace hx168_1 := (HB.out.cell (World.block_lt_of_cell? w _ hx168_1)).trans hx168_1
                            replace hx168_2 := (HB.out.cell (World.block_lt_of_cell? w _ hx168_2)).trans hx168_2
                            replace hx168_3 := (HB.out.cell (World.block_lt_of_cell? w _ hx168_3)).trans hx168_3
                            replace hx168_4 := (HB.out.cell (World.block_lt_of_cell? w _ hx168_4)).trans hx168_4
                            replace hx168_5 := (HB.out.cell (World.block_lt_of_cell? w _ hx168_5)).trans hx168_5
                            replace p168 := eq_true p168
                            replace q168 := eq_true q168
                            have p169 : 0 ≤ (((rd_T59 l0_1 x10_2).f2) : Int) := oZ
                            have q169 : ((rd_T59 l0_1 x10_2).f2) < (x8_2.length : Int) := oZ
                            obtain ⟨ad169, e169, hx169_0⟩ := Kd.at_bool (Kd.R_reads' HO_8.out).2.2 ((rd_T59 l0_1 x10_2).f2) p169 q169
                            (try rw [← Nbq28.out] at hx169_0)
                            (try rw [← Nbq61.out] at hx169_0)
                            obtain rfl : (⟨go8, 0, none⟩ : Addr) = ad169 := (by injection e169)
                            (first | simp only [add_plain] at hx169_0 | simp only [add_at] at hx169_0 | simp only [Addr.add, Nat.zero_add] at hx169_0 | skip)
                            replace p169 := eq_true p169
                            replace q169 := eq_true q169
                            have p182 : 0 ≤ (x10_2 : Int) := oZ
                            have q182 : x10_2 < (l0_1.length : Int) := oZ
                            obtain ⟨ad182, e182, hx182_0, hx182_1, hx182_2, hx182_3, hx182_4, hx182_5⟩ := at_T59 HR0_1.out x10_2 p182 q182
                            obtain rfl : ad165 = ad182 := (by injection e182)
                            replace hx182_0 := (HB.out.cell (World.block_lt_of_cell? w _ hx182_0)).trans hx182_0
                            replace hx182_1 := (HB.out.cell (World.block_lt_of_cell? w _ hx182_1)).trans hx182_1
                            replace hx182_2 := (HB.out.cell (World.block_lt_of_cell? w _ hx182_2)).trans hx182_2
                            replace hx182_3 := (HB.out.cell (World.block_lt_of_cell? w _ hx182_3)).trans hx182_3
                            replace hx182_4 := (HB.out.cell (World.block_lt_of_cell? w _ hx182_4)).trans hx182_4
                            replace hx182_5 := (HB.out.cell (World.block_lt_of_cell? w _ hx182_5)).trans hx182_5
                            replace p182 := eq_true p182
                            replace q182 := eq_true q182
                            have p53 : 0 ≤ (((rd_T59 l0_1 x10_2).f2) : Int) := oZ
                            have q53 : (((rd_T59 l0_1 x10_2).f2) : Int) < ((x8_2.length : Int) : Int) := oZ
                            obtain ⟨hx53_0, hf53_0⟩ := Kd.R_celln false HO_8.out (((rd_T59 l0_1 x10_2).f2) : Int) p53 q53
                            replace p53 := eq_true p53
                            replace q53 := eq_true q53
                            have HP79 := Kd.R_putg HO_8.out (((rd_T59 l0_1 x10_2).f2) : Int) true
                            iterate 5 (go_wp2_with (first | ((with_reducible refine gate_store (t := 4) (p := 74) rfl ?_); (try (rw [drewN_self wr]; generalize hq_ : World.drewN wr _ = wr; have n0_ := Aside0.mk (Kd.R_at hq_ HO_6.out); have n1_ := Aside0.mk (Kd.R_at hq_ HO_7.out); have n2_ := Aside0.mk (Kd.R_at hq_ HO_8.out); have n3_ := Aside0.mk (below_at hq_ HB.out); clear hq_ HO_6 HO_7 HO_8 HB; have HO_6 := n0_; have HO_7 := n1_; have HO_8 := n2_; have HB := n3_; clear n0_ n1_ n2_ n3_; (try (have HP79 := Kd.R_putg HO_8.out (((rd_T59 l0_1 x10_2).f2) : Int) true)); (try (obtain ⟨hx53_0, hf53_0⟩ := Kd.R_celln false HO_8.out (((rd_T59 l0_1 x10_2).f2) : Int) (of_eq_true p53) (of_eq_true q53))))); refine store_event (t := 4) (p := 74) (v := ?vo_w80) (w1 := (wr.setCell ⟨go8, (((rd_T59 l0_1 x10_2).f2) : Int).toNat, none⟩ (.bool true))) ?hg ?ho ?hn ?hr ?_; (case ho => rfl); (case hg => rfl); (case hn => rfl); (case hr => first | (go_simp; done) | (go_simp; rfl)); intro w80 hw; have hg : wr.grownBy w80 (some go8) := (by rw [hw]; exact HP79.2); have hp_ : Kd.R Kd.bool 4 w80 w.heap.size (fun _ => True) (.slice (some ⟨go8, 0, none⟩) x8_2.length co8) y183 := (by rw [hw, Ny183.out]; exact HP79.1); clear HP79; have n0_ := Aside0.mk (Kd.R_over' (v := (.slice (some ⟨go8, 0, none⟩) x8_2.length co8)) (Kd.rZ HO_6.out) (Kd.R_typed HO_8.out) (by decide) hg); have n1_ := Aside0.mk (Kd.R_over' (v := (.slice (some ⟨go8, 0, none⟩) x8_2.length co8)) (Kd.rZ HO_7.out) (Kd.R_typed HO_8.out) (by decide) hg); have n2_ := Aside0.mk (hp_); have n3_ := Aside0.mk ((by rw [hw]; exact below_set (HB.out) GB8.out : Below w.heap.size w w80)); clear HO_6; clear HO_7; clear HO_8; clear HB; have HO_6 := n0_; have HO_7 := n1_; have HO_8 := n2_; have HB := n3_; clear n0_ n1_ n2_ n3_; clear hg hw hp_; have p184 : 0 ≤ (x10_2 : Int) := oZ; have q184 : x10_2 < (l0_1.length : Int) := oZ; obtain ⟨ad184, e184, hx184_0, hx184_1, hx184_2, hx184_3, hx184_4, hx184_5⟩ := at_T59 HR0_1.out x10_2 p184 q184; obtain rfl : ad165 = ad184 := (by injection e184); replace hx184_0 := (HB.out.cell (World.block_lt_of_cell? w _ hx184_0)).trans hx184_0; replace hx184_1 := (HB.out.cell (World.block_lt_of_cell? w _ hx184_1)).trans hx184_1; replace hx184_2 := (HB.out.cell (World.block_lt_of_cell? w _ hx184_2)).trans hx184_2; replace hx184_3 := (HB.out.cell (World.block_lt_of_cell? w _ hx184_3)).trans hx184_3; replace hx184_4 := (HB.out.cell (World.block_lt_of_cell? w _ hx184_4)).trans hx184_4; replace hx184_5 := (HB.out.cell (World.block_lt_of_cell? w _ hx184_5)).trans hx184_5; replace p184 := eq_true p184; replace q184 := eq_true q184; have p55 : 0 ≤ (((rd_T59 l0_1 x10_2).f2) : Int) := oZ; have q55 : (((rd_T59 l0_1 x10_2).f2) : Int) < ((x7_2.length : Int) : Int) := oZ; obtain ⟨go55, co55, eo55, gb55, gl55, cl55, HG55⟩ := Kd.R_form HO_7.out (by omega); (first | cases eo55 | (injection eo55 with ea_ en_ ec_; (first | subst ea_ | (injection ea_ with ea_; subst ea_)); subst ec_; clear en_)); have GB55 := Aside0.mk gb55; have GG55 := Aside0.mk HG55; clear gb55 gl55 HG55; obtain ⟨hx55_0, hf55_0⟩ := Kd.R_celln 0 HO_7.out (((rd_T59 l0_1 x10_2).f2) : Int) p55 q55; replace p55 := eq_true p55; replace q55 := eq_true q55; obtain ⟨hy81_, hz81_⟩ := Kd.R_celln 0 HO_7.out (((rd_T59 l0_1 x10_2).f2) : Int) oZ oZ; have HP81 := Kd.R_putg HO_7.out (((rd_T59 l0_1 x10_2).f2) : Int) (wrap64 (x10_2 + 1))) | ((with_reducible refine gate_store (t := 2) (p := 82) rfl ?_); (try (rw [drewN_self w80]; generalize hq_ : World.drewN w80 _ = w80; have n0_ := Aside0.mk (Kd.R_at hq_ HO_6.out); have n1_ := Aside0.mk (Kd.R_at hq_ HO_7.out); have n2_ := Aside0.mk (Kd.R_at hq_ HO_8.out); have n3_ := Aside0.mk (below_at hq_ HB.out); clear hq_ HO_6 HO_7 HO_8 HB; have HO_6 := n0_; have HO_7 := n1_; have HO_8 := n2_; have HB := n3_; clear n0_ n1_ n2_ n3_; (try (obtain ⟨hy81_, hz81_⟩ := Kd.R_celln 0 HO_7.out (((rd_T59 l0_1 x10_2).f2) : Int) oZ oZ)); (try (have HP81 := Kd.R_putg HO_7.out (((rd_T59 l0_1 x10_2).f2) : Int) (wrap64 (x10_2 + 1)))))); refine store_event (t := 2) (p := 82) (v := ?vo_w82) (w1 := (w80.setCell ⟨go55, (((rd_T59 l0_1 x10_2).f2) : Int).toNat, none⟩ (.int .i64 (wrap64 (x10_2 + 1))))) ?hg ?ho ?hn ?hr ?_; (case ho => rfl); (case hg => rfl); (case hn => rfl); (case hr => first | (go_simp; done) | (go_simp; rfl)); intro w82 hw; have hg : w80.grownBy w82 (some go55) := (by rw [hw]; exact HP81.2); have hp_ : Kd.R (Kd.int .i64) 2 w82 w.heap.size (fun k_ => some k_ ≠ (.slice (some ad167) x6_2.length co78 : Value).ownBlock) (.slice (some ⟨go55, 0, none⟩) x7_2.length co55) y185 := (by rw [hw, Ny185.out]; exact HP81.1); clear HP81; have n0_ := Aside0.mk (Kd.R_after (v := (.slice (some ⟨go55, 0, none⟩) x7_2.length co55)) (v1 := (.slice (some ⟨go55, 0, none⟩) x7_2.length co55)) (ok := (fun _ => True)) (Kd.rZ (Kd.R_mono HO_6.out (fun _ hk => ⟨trivial, hk⟩))) hg (.inl rfl)); have n1_ := Aside0.mk (hp_); have n2_ := Aside0.mk (Kd.R_over' (v := (.slice (some ⟨go55, 0, none⟩) x7_2.length co55)) (Kd.rZ HO_8.out) (Kd.R_typed HO_7.out) (by decide) hg); have n3_ := Aside0.mk ((by rw [hw]; exact below_set (HB.out) GB55.out : Below w.heap.size w w82)); clear HO_6; clear HO_7; clear HO_8; clear HB; have HO_6 := n0_; have HO_7 := n1_; have HO_8 := n2_; have HB := n3_; clear n0_ n1_ n2_ n3_; clear hg hw hp_; have p186 : 0 ≤ (x10_2 : Int) := oZ; have q186 : x10_2 < (l0_1.length : Int) := oZ; obtain ⟨ad186, e186, hx186_0, hx186_1, hx186_2, hx186_3, hx186_4, hx186_5⟩ := at_T59 HR0_1.out x10_2 p186 q186; obtain rfl : ad165 = ad186 := (by injection e186); replace hx186_0 := (HB.out.cell (World.block_lt_of_cell? w _ hx186_0)).trans hx186_0; replace hx186_1 := (HB.out.cell (World.block_lt_of_cell? w _ hx186_1)).trans hx186_1; replace hx186_2 := (HB.out.cell (World.block_lt_of_cell? w _ hx186_2)).trans hx186_2; replace hx186_3 := (HB.out.cell (World.block_lt_of_cell? w _ hx186_3)).trans hx186_3; replace hx186_4 := (HB.out.cell (World.block_lt_of_cell? w _ hx186_4)).trans hx186_4; replace hx186_5 := (HB.out.cell (World.block_lt_of_cell? w _ hx186_5)).trans hx186_5; replace p186 := eq_true p186; replace q186 := eq_true q186) | ((with_reducible refine gate_builtin (b := .append) (xs := #[.tmp 83, .tmp 88]) rfl ?_); at_builtin; refine Kd.R_append (Kd.int .i64) (w0 := w) w.heap.size rfl (.tmp 83) (.tmp 88) 22 2 (.int .i64 0) 8 rfl Try.underlying22 info2 rfl (by decide) (by omega) (.slice (some ad167) x6_2.length co78) x6_2 ((rd_T59 l0_1 x10_2).f2) [.int .i64 ((rd_T59 l0_1 x10_2).f2)] (fun k_ => some k_ ≠ (.slice (some ⟨go55, 0, none⟩) x7_2.length co55 : Value).ownBlock) (fun _ => False) rfl rfl ?aP (fun _ hk => hk.elim) ?aF ?aO ?aB ?aS ?aL ?_; (case aP => exact rfl); (case aB => exact bZ); (case aF => exact (fun k_ hk => Kd.fresh' (Kd.R_lt (Kd.rZ HO_7.out)) k_ hk)); (case aO => exact (Kd.rZ (Kd.R_mono HO_6.out (fun _ hk => hk.2)))); (case aS => exact bsZ); (case aL => have := LMc56.out; omega); intro v188 w83 ho hb hg hat; rw [← Ny187.out] at ho; have n0_ := Aside0.mk (Kd.R_after (ok := (fun _ => True)) (Kd.rZ (Kd.R_mono HO_7.out (fun _ hk => ⟨trivial, hk⟩))) hg hat); have n1_ := Aside0.mk (Kd.R_over' (Kd.rZ HO_8.out) (Kd.R_typed (Kd.rZ HO_6.out)) (by decide) hg); have n2_ := Aside0.mk (hb); have n3_ := Aside0.mk (ho); clear HO_7; clear HO_8; clear HB; clear HO_6; have HO_7 := n0_; have HO_8 := n1_; have HB := n2_; have HO189 := n3_; clear n0_ n1_ n2_ n3_; clear ho hb hg hat; have p190 : 0 ≤ (x10_2 : Int) := oZ; have q190 : x10_2 < (l0_1.length : Int) := oZ; obtain ⟨ad190, e190, hx190_0, hx190_1, hx190_2, hx190_3, hx190_4, hx190_5⟩ := at_T59 HR0_1.out x10_2 p190 q190; obtain rfl : ad165 = ad190 := (by injection e190); replace hx190_0 := (HB.out.cell (World.block_lt_of_cell? w _ hx190_0)).trans hx190_0; replace hx190_1 := (HB.out.cell (World.block_lt_of_cell? w _ hx190_1)).trans hx190_1; replace hx190_2 := (HB.out.cell (World.block_lt_of_cell? w _ hx190_2)).trans hx190_2; replace hx190_3 := (HB.out.cell (World.block_lt_of_cell? w _ hx190_3)).trans hx190_3; replace hx190_4 := (HB.out.cell (World.block_lt_of_cell? w _ hx190_4)).trans hx190_4; replace hx190_5 := (HB.out.cell (World.block_lt_of_cell? w _ hx190_5)).trans hx190_5; replace p190 := eq_true p190; replace q190 := eq_true q190; obtain ⟨Ao84, co84, eo84⟩ := Kd.R_slice HO189.out; subst eo84; have p191 : 0 ≤ (x9_1 : Int) := oZ; have q191 : x9_1 < (y187.length : Int) := oZ; obtain ⟨ad191, e191, hx191_0⟩ := Kd.at_int (Kd.R_reads' HO189.out).2.2 x9_1 p191 q191; cases e191; replace p191 := eq_true p191; replace q191 := eq_true q191; have p192 : 0 ≤ (x10_2 : Int) := oZ; have q192 : x10_2 < (l0_1.length : Int) := oZ; obtain ⟨ad192, e192, hx192_0, hx192_1, hx192_2, hx192_3, hx192_4, hx192_5⟩ := at_T59 HR0_1.out x10_2 p192 q192; obtain rfl : ad165 = ad192 := (by injection e192); replace hx192_0 := (HB.out.cell (World.block_lt_of_cell? w _ hx192_0)).trans hx192_0; replace hx192_1 := (HB.out.cell (World.block_lt_of_cell? w _ hx192_1)).trans hx192_1; replace hx192_2 := (HB.out.cell (World.block_lt_of_cell? w _ hx192_2)).trans hx192_2; replace hx192_3 := (HB.out.cell (World.block_lt_of_cell? w _ hx192_3)).trans hx192_3; replace hx192_4 := (HB.out.cell (World.block_lt_of_cell? w _ hx192_4)).trans hx192_4; replace hx192_5 := (HB.out.cell (World.block_lt_of_cell? w _ hx192_5)).trans hx192_5; replace p192 := eq_true p192; replace q192 := eq_true q192; have p193 : 0 ≤ (((rd_T59 l0_1 x10_2).f1) : Int) := oZ; have q193 : ((rd_T59 l0_1 x10_2).f1) < (y183.length : Int) := (by have h_ : (((rd_T59 l0_1 x10_2).f1) : Int) < ((x8_2.length : Int) : Int) := oZ; first | (have e_ := (Kd.R_reads' HO_8.out).1; omega) | simpa only [Ny183.out, List.length_set] using h_); have ql193 : ((((rd_T59 l0_1 x10_2).f1) : Int) < ((x8_2.length : Int) : Int)) = True := eq_true oZ; obtain ⟨ad193, e193, hx193_0⟩ := Kd.at_bool (Kd.R_reads' HO_8.out).2.2 ((rd_T59 l0_1 x10_2).f1) p193 q193; (try rw [← Nbq28.out] at hx193_0); (try rw [← Nbq61.out] at hx193_0); obtain rfl : (⟨go8, 0, none⟩ : Addr) = ad193 := (by injection e193); (first | simp only [add_plain] at hx193_0 | simp only [add_at] at hx193_0 | simp only [Addr.add, Nat.zero_add] at hx193_0 | skip); replace p193 := eq_true p193; replace q193 := eq_true q193; have p194 : 0 ≤ (x10_2 : Int) := oZ; have q194 : x10_2 < (l0_1.length : Int) := oZ; obtain ⟨ad194, e194, hx194_0, hx194_1, hx194_2, hx194_3, hx194_4, hx194_5⟩ := at_T59 HR0_1.out x10_2 p194 q194; obtain rfl : ad165 = ad194 := (by injection e194); replace hx194_0 := (HB.out.cell (World.block_lt_of_cell? w _ hx194_0)).trans hx194_0; replace hx194_1 := (HB.out.cell (World.block_lt_of_cell? w _ hx194_1)).trans hx194_1; replace hx194_2 := (HB.out.cell (World.block_lt_of_cell? w _ hx194_2)).trans hx194_2; replace hx194_3 := (HB.out.cell (World.block_lt_of_cell? w _ hx194_3)).trans hx194_3; replace hx194_4 := (HB.out.cell (World.block_lt_of_cell? w _ hx194_4)).trans hx194_4; replace hx194_5 := (HB.out.cell (World.block_lt_of_cell? w _ hx194_5)).trans hx194_5; replace p194 := eq_true p194; replace q194 := eq_true q194; have p72 : 0 ≤ (((rd_T59 l0_1 x10_2).f1) : Int) := oZ; have q72 : (((rd_T59 l0_1 x10_2).f1) : Int) < ((x8_2.length : Int) : Int) := oZ; obtain ⟨hx72_0, hf72_0⟩ := Kd.R_celln false HO_8.out (((rd_T59 l0_1 x10_2).f1) : Int) p72 q72; replace p72 := eq_true p72; replace q72 := eq_true q72; obtain ⟨hy85_, hz85_⟩ := Kd.R_celln false HO_8.out (((rd_T59 l0_1 x10_2).f1) : Int) oZ oZ; have HP85 := Kd.R_putg HO_8.out (((rd_T59 l0_1 x10_2).f1) : Int) true) | ((with_reducible refine gate_store (t := 4) (p := 114) rfl ?_); (try (rw [drewN_self w83]; generalize hq_ : World.drewN w83 _ = w83; have n0_ := Aside0.mk (Kd.R_at hq_ HO_7.out); have n1_ := Aside0.mk (Kd.R_at hq_ HO_8.out); have n2_ := Aside0.mk (Kd.R_at hq_ HO189.out); have n3_ := Aside0.mk (below_at hq_ HB.out); clear hq_ HO_7 HO_8 HO189 HB; have HO_7 := n0_; have HO_8 := n1_; have HO189 := n2_; have HB := n3_; clear n0_ n1_ n2_ n3_; (try (obtain ⟨hy85_, hz85_⟩ := Kd.R_celln false HO_8.out (((rd_T59 l0_1 x10_2).f1) : Int) oZ oZ)); (try (have HP85 := Kd.R_putg HO_8.out (((rd_T59 l0_1 x10_2).f1) : Int) true)); (try (obtain ⟨hx53_0, hf53_0⟩ := Kd.R_celln false HO_8.out (((rd_T59 l0_1 x10_2).f2) : Int) (of_eq_true p53) (of_eq_true q53))))); refine store_event (t := 4) (p := 114) (v := ?vo_w86) (w1 := (w83.setCell ⟨go8, (((rd_T59 l0_1 x10_2).f1) : Int).toNat, none⟩ (.bool true))) ?hg ?ho ?hn ?hr ?_; (case ho => rfl); (case hg => rfl); (case hn => rfl); (case hr => first | (go_simp; done) | (go_simp; rfl)); intro w86 hw; have hg : w83.grownBy w86 (some go8) := (by rw [hw]; exact HP85.2); have hp_ : Kd.R Kd.bool 4 w86 w.heap.size (fun _ => True) (.slice (some ⟨go8, 0, none⟩) x8_2.length co8) y195 := (by rw [hw, Ny195.out]; exact HP85.1); clear HP85; have n0_ := Aside0.mk (Kd.R_over' (v := (.slice (some ⟨go8, 0, none⟩) x8_2.length co8)) (Kd.rZ HO_7.out) (Kd.R_typed HO_8.out) (by decide) hg); have n1_ := Aside0.mk (hp_); have n2_ := Aside0.mk (Kd.R_over' (v := (.slice (some ⟨go8, 0, none⟩) x8_2.length co8)) (Kd.rZ HO189.out) (Kd.R_typed HO_8.out) (by decide) hg); have n3_ := Aside0.mk ((by rw [hw]; exact below_set (HB.out) GB8.out : Below w.heap.size w w86)); clear HO_7; clear HO_8; clear HO189; clear HB; have HO_7 := n0_; have HO_8 := n1_; have HO189 := n2_; have HB := n3_; clear n0_ n1_ n2_ n3_; clear hg hw hp_; have p196 : 0 ≤ (x10_2 : Int) := oZ; have q196 : x10_2 < (l0_1.length : Int) := oZ; obtain ⟨ad196, e196, hx196_0, hx196_1, hx196_2, hx196_3, hx196_4, hx196_5⟩ := at_T59 HR0_1.out x10_2 p196 q196; obtain rfl : ad165 = ad196 := (by injection e196); replace hx196_0 := (HB.out.cell (World.block_lt_of_cell? w _ hx196_0)).trans hx196_0; replace hx196_1 := (HB.out.cell (World.block_lt_of_cell? w _ hx196_1)).trans hx196_1; replace hx196_2 := (HB.out.cell (World.block_lt_of_cell? w _ hx196_2)).trans hx196_2; replace hx196_3 := (HB.out.cell (World.block_lt_of_cell? w _ hx196_3)).trans hx196_3; replace hx196_4 := (HB.out.cell (World.block_lt_of_cell? w _ hx196_4)).trans hx196_4; replace hx196_5 := (HB.out.cell (World.block_lt_of_cell? w _ hx196_5)).trans hx196_5; replace p196 := eq_true p196; replace q196 := eq_true q196; have p74 : 0 ≤ (((rd_T59 l0_1 x10_2).f1) : Int) := oZ; have q74 : (((rd_T59 l0_1 x10_2).f1) : Int) < ((x7_2.length : Int) : Int) := oZ; obtain ⟨hx74_0, hf74_0⟩ := Kd.R_celln 0 HO_7.out (((rd_T59 l0_1 x10_2).f1) : Int) p74 q74; replace p74 := eq_true p74; replace q74 := eq_true q74; have n_ := Aside0.mk (Kd.R_mono (ok' := (fun k_ => some k_ ≠ (.slice (some ad191) y187.length co84 : Value).ownBlock)) HO_7.out (fun k_ hk => hk.2)); clear HO_7; have HO_7 := n_; clear n_; obtain ⟨hy87_, hz87_⟩ := Kd.R_celln 0 HO_7.out (((rd_T59 l0_1 x10_2).f1) : Int) oZ oZ; have HP87 := Kd.R_putg HO_7.out (((rd_T59 l0_1 x10_2).f1) : Int) (wrap64 ((wrap64 (-x10_2)) - 1))) | ((with_reducible refine gate_store (t := 2) (p := 123) rfl ?_); (try (rw [drewN_self w86]; generalize hq_ : World.drewN w86 _ = w86; have n0_ := Aside0.mk (Kd.R_at hq_ HO_7.out); have n1_ := Aside0.mk (Kd.R_at hq_ HO_8.out); have n2_ := Aside0.mk (Kd.R_at hq_ HO189.out); have n3_ := Aside0.mk (below_at hq_ HB.out); clear hq_ HO_7 HO_8 HO189 HB; have HO_7 := n0_; have HO_8 := n1_; have HO189 := n2_; have HB := n3_; clear n0_ n1_ n2_ n3_; (try (have n_ := Aside0.mk (Kd.R_mono (ok' := (fun k_ => some k_ ≠ (.slice (some ad191) y187.length co84 : Value).ownBlock)) HO_7.out (fun k_ hk => hk.2)); clear HO_7; have HO_7 := n_; clear n_)); (try (obtain ⟨hy87_, hz87_⟩ := Kd.R_celln 0 HO_7.out (((rd_T59 l0_1 x10_2).f1) : Int) oZ oZ)); (try (have HP87 := Kd.R_putg HO_7.out (((rd_T59 l0_1 x10_2).f1) : Int) (wrap64 ((wrap64 (-x10_2)) - 1)))))); refine store_event (t := 2) (p := 123) (v := ?vo_w88) (w1 := (w86.setCell ⟨go55, (((rd_T59 l0_1 x10_2).f1) : Int).toNat, none⟩ (.int .i64 (wrap64 ((wrap64 (-x10_2)) - 1))))) ?hg ?ho ?hn ?hr ?_; (case ho => rfl); (case hg => rfl); (case hn => rfl); (case hr => first | (go_simp; done) | (go_simp; rfl)); intro w88 hw; have hg : w86.grownBy w88 (some go55) := (by rw [hw]; exact HP87.2); have hp_ : Kd.R (Kd.int .i64) 2 w88 w.heap.size (fun k_ => some k_ ≠ (.slice (some ad191) y187.length co84 : Value).ownBlock) (.slice (some ⟨go55, 0, none⟩) x7_2.length co55) y197 := (by rw [hw, Ny197.out]; exact HP87.1); clear HP87; have n0_ := Aside0.mk (hp_); have n1_ := Aside0.mk (Kd.R_over' (v := (.slice (some ⟨go55, 0, none⟩) x7_2.length co55)) (Kd.rZ HO_8.out) (Kd.R_typed HO_7.out) (by decide) hg); have n2_ := Aside0.mk (Kd.R_after (v := (.slice (some ⟨go55, 0, none⟩) x7_2.length co55)) (v1 := (.slice (some ⟨go55, 0, none⟩) x7_2.length co55)) (ok := (fun _ => True)) (Kd.rZ (Kd.R_mono HO189.out (fun _ hk => ⟨trivial, hk⟩))) hg (.inl rfl)); have n3_ := Aside0.mk ((by rw [hw]; exact below_set (HB.out) GB55.out : Below w.heap.size w w88)); clear HO_7; clear HO_8; clear HO189; clear HB; have HO_7 := n0_; have HO_8 := n1_; have HO189 := n2_; have HB := n3_; clear n0_ n1_ n2_ n3_; clear hg hw hp_; have p198 : 0 ≤ (x10_2 : Int) := oZ; have q198 : x10_2 < (l0_1.length : Int) := oZ; obtain ⟨ad198, e198, hx198_0, hx198_1, hx198_2, hx198_3, hx198_4, hx198_5⟩ := at_T59 HR0_1.out x10_2 p198 q198; obtain rfl : ad165 = ad198 := (by injection e198); replace hx198_0 := (HB.out.cell (World.block_lt_of_cell? w _ hx198_0)).trans hx198_0; replace hx198_1 := (HB.out.cell (World.block_lt_of_cell? w _ hx198_1)).trans hx198_1; replace hx198_2 := (HB.out.cell (World.block_lt_of_cell? w _ hx198_2)).trans hx198_2; replace hx198_3 := (HB.out.cell (World.block_lt_of_cell? w _ hx198_3)).trans hx198_3; replace hx198_4 := (HB.out.cell (World.block_lt_of_cell? w _ hx198_4)).trans hx198_4; replace hx198_5 := (HB.out.cell (World.block_lt_of_cell? w _ hx198_5)).trans hx198_5; replace p198 := eq_true p198; replace q198 := eq_true q198) | ((with_reducible refine gate_builtin (b := .append) (xs := #[.tmp 124, .tmp 129]) rfl ?_); at_builtin; refine Kd.R_append (Kd.int .i64) (w0 := w) w.heap.size rfl (.tmp 124) (.tmp 129) 22 2 (.int .i64 0) 8 rfl Try.underlying22 info2 rfl (by decide) (by omega) (.slice (some ad191) y187.length co84) y187 ((rd_T59 l0_1 x10_2).f1) [.int .i64 ((rd_T59 l0_1 x10_2).f1)] (fun k_ => some k_ ≠ (.slice (some ⟨go55, 0, none⟩) x7_2.length co55 : Value).ownBlock) (fun _ => False) rfl rfl ?aP (fun _ hk => hk.elim) ?aF ?aO ?aB ?aS ?aL ?_; (case aP => exact rfl); (case aB => exact bZ); (case aF => exact (fun k_ hk => Kd.fresh' (Kd.R_lt (Kd.rZ HO_7.out)) k_ hk)); (case aO => exact (Kd.rZ (Kd.R_mono HO189.out (fun _ hk => hk.2)))); (case aS => exact bsZ); (case aL => have := LMc75.out; omega); intro v200 w89 ho hb hg hat; rw [← Ny199.out] at ho; have n0_ := Aside0.mk (Kd.R_after (ok := (fun _ => True)) (Kd.rZ (Kd.R_mono HO_7.out (fun _ hk => ⟨trivial, hk⟩))) hg hat); have n1_ := Aside0.mk (Kd.R_over' (Kd.rZ HO_8.out) (Kd.R_typed (Kd.rZ HO189.out)) (by decide) hg); have n2_ := Aside0.mk (hb); have n3_ := Aside0.mk (ho); clear HO_7; clear HO_8; clear HB; clear HO189; have HO_7 := n0_; have HO_8 := n1_; have HB := n2_; have HO201 := n3_; clear n0_ n1_ n2_ n3_; clear ho hb hg hat)); try go_quiet (fail))
                            (try simp only [← hl8_2])
                            go_roundg k2
                            case measure => have := HK1.out; have := HK2.out; omega
                            case rel => exact ⟨(y199), (y197), (y195), (wrap64 (x10_2 + 1)), sZ, H', ⟨by have := HK1.out; have := HK2.out; omega⟩, ⟨by (try simp only [hl8_1]); (try simp only [hl8_2]); (with_reducible repeat (first | apply Kd.R_alloc | apply Kd.R_drewN | apply Kd.R_drew)); exact HO201.out⟩, ⟨by (try simp only [hl8_1]); (try simp only [hl8_2]); (with_reducible repeat (first | apply Kd.R_alloc | apply Kd.R_drewN | apply Kd.R_drew)); exact Kd.R_mono HO_7.out (fun _ hk => hk.2)⟩, ⟨by (try simp only [hl8_1]); (try simp only [hl8_2]); (with_reducible repeat (first | apply Kd.R_alloc | apply Kd.R_drewN | apply Kd.R_drew)); exact HO_8.out⟩, ⟨bZ⟩⟩
                           ·rw [if_neg c75] at H
                            exact absurd H (by simp)
                          ·rw [if_neg c73] at H
                           exact absurd H (by simp)
                        ·rw [if_neg c60] at H
                         exact absurd H (by simp)
                       ·rw [if_neg c59] at H
                        exact absurd H (by simp)
                      ·rw [if_neg c58] at H
                       have c58b0 : (((rd_T59 l0_1 x10_2).f2) == (rd y187 x9_1)) = false := beq_eq_false_iff_ne.mpr c58
                       have c58b1 : (((rd_T59 l0_1 x10_2).f2) != (rd y187 x9_1)) = true := bne_iff_ne.mpr c58
                       have H' := Aside0.mk H
                       clear H
                       have hvx90 := (HB.out.cell (World.block_lt_of_cell? w _ hvw0_1)).trans hvw0_1
                       have hvx91 := (HB.out.cell (World.block_lt_of_cell? w _ hvw0_1)).trans hvw0_1
                       have p165 : 0 ≤ (x10_2 : Int) := oZ
                       have q165 : x10_2 < (l0_1.length : Int) := oZ
                       obtain ⟨ad165, e165, hx165_0, hx165_1, hx165_2, hx165_3, hx165_4, hx165_5⟩ := at_T59 HR0_1.out x10_2 p165 q165
                       cases e165
                       replace hx165_0 := (HB.out.cell (World.block_lt_of_cell? w _ hx165_0)).trans hx165_0
                       replace hx165_1 := (HB.out.cell (World.block_lt_of_cell? w _ hx165_1)).trans hx165_1
                       replace hx165_2 := (HB.out.cell (World.block_lt_of_cell? w _ hx165_2)).trans hx165_2
                       replace hx165_3 := (HB.out.cell (World.block_lt_of_cell? w _ hx165_3)).trans hx165_3
                       replace hx165_4 := (HB.out.cell (World.block_lt_of_cell? w _ hx165_4)).trans hx165_4
                       replace hx165_5 := (HB.out.cell (World.block_lt_of_cell? w _ hx165_5)).trans hx165_5
                       replace p165 := eq_true p165
                       replace q165 := eq_true q165
                       have p166 : 0 ≤ (x10_2 : Int) := oZ
                       have q166 : x10_2 < (l0_1.length : Int) := oZ
                       obtain ⟨ad166, e166, hx166_0, hx166_1, hx166_2, hx166_3, hx166_4, hx166_5⟩ := at_T59 HR0_1.out x10_2 p166 q166
                       obtain rfl : ad165 = ad166 := (by injection e166)
                       replace hx166_0 := (HB.out.cell (World.block_lt_of_cell? w _ hx166_0)).trans hx166_0
                       replace hx166_1 := (HB.out.cell (World.block_lt_of_cell? w _ hx166_1)).trans hx166_1
                       replace hx166_2 := (HB.out.cell (World.block_lt_of_cell? w _ hx166_2)).trans hx166_2
                       replace hx166_3 := (HB.out.cell (World.block_lt_of_cell? w _ hx166_3)).trans hx166_3
                       replace hx166_4 := (HB.out.cell (World.block_lt_of_cell? w _ hx166_4)).trans hx166_4
                       replace hx166_5 := (HB.out.cell (World.block_lt_of_cell? w _ hx166_5)).trans hx166_5
                       replace p166 := eq_true p166
                       replace q166 := eq_true q166
                       obtain ⟨Ao92, co92, eo92⟩ := Kd.R_slice HO_6.out
                       subst eo92
                       have p167 : 0 ≤ (x9_1 : Int) := oZ
                       have q167 : x9_1 < (x6_2.length : Int) := oZ
                       obtain ⟨ad167, e167, hx167_0⟩ := Kd.at_int (Kd.R_reads' HO_6.out).2.2 x9_1 p167 q167
                       cases e167
                       replace p167 := eq_true p167
                       replace q167 := eq_true q167
                       have p168 : 0 ≤ (x10_2 : Int) := oZ
                       have q168 : x10_2 < (l0_1.length : Int) := oZ
                       obtain ⟨ad168, e168, hx168_0, hx168_1, hx168_2, hx168_3, hx168_4, hx168_5⟩ := at_T59 HR0_1.out x10_2 p168 q168
                       obtain rfl : ad165 = ad168 := (by injection e168)
                       replace hx168_0 := (HB.out.cell (World.block_lt_of_cell? w _ hx168_0)).trans hx168_0
                       replace hx168_1 := (HB.out.cell (World.block_lt_of_cell? w _ hx168_1)).trans hx168_1
                       replace hx168_2 := (HB.out.cell (World.block_lt_of_cell? w _ hx168_2)).trans hx168_2
                       replace hx168_3 := (HB.out.cell (World.block_lt_of_cell? w _ hx168_3)).trans hx168_3
                       replace hx168_4 := (HB.out.cell (World.block_lt_of_cell? w _ hx168_4)).trans hx168_4
                       replace hx168_5 := (HB.out.cell (World.block_lt_of_cell? w _ hx168_5)).trans hx168_5
                       replace p168 := eq_true p168
                       replace q168 := eq_true q168
                       have p169 : 0 ≤ (((rd_T59 l0_1 x10_2).f2) : Int) := oZ
                       have q169 : ((rd_T59 l0_1 x10_2).f2) < (x8_2.length : Int) := oZ
                       obtain ⟨ad169, e169, hx169_0⟩ := Kd.at_bool (Kd.R_reads' HO_8.out).2.2 ((rd_T59 l0_1 x10_2).f2) p169 q169
                       (try rw [← Nbq28.out] at hx169_0)
                       obtain rfl : (⟨go8, 0, none⟩ : Addr) = ad169 := (by injection e169)
                       (first | simp only [add_plain] at hx169_0 | simp only [add_at] at hx169_0 | simp only [Addr.add, Nat.zero_add] at hx169_0 | skip)
                       replace p169 := eq_true p169
                       replace q169 := eq_true q169
                       have p182 : 0 ≤ (x10_2 : Int) := oZ
                       have q182 : x10_2 < (l0_1.length : Int) := oZ
                       obtain ⟨ad182, e182, hx182_0, hx182_1, hx182_2, hx182_3, hx182_4, hx182_5⟩ := at_T59 HR0_1.out x10_2 p182 q182
                       obtain rfl : ad165 = ad182 := (by injection e182)
                       replace hx182_0 := (HB.out.cell (World.block_lt_of_cell? w _ hx182_0)).trans hx182_0
                       replace hx182_1 := (HB.out.cell (World.block_lt_of_cell? w _ hx182_1)).trans hx182_1
                       replace hx182_2 := (HB.out.cell (World.block_lt_of_cell? w _ hx182_2)).trans hx182_2
                       replace hx182_3 := (HB.out.cell (World.block_lt_of_cell? w _ hx182_3)).trans hx182_3
                       replace hx182_4 := (HB.out.cell (World.block_lt_of_cell? w _ hx182_4)).trans hx182_4
                       replace hx182_5 := (HB.out.cell (World.block_lt_of_cell? w _ hx182_5)).trans hx182_5
                       replace p182 := eq_true p182
                       replace q182 := eq_true q182
                       have p53 : 0 ≤ (((rd_T59 l0_1 x10_2).f2) : Int) := oZ
                       have q53 : (((rd_T59 l0_1 x10_2).f2) : Int) < ((x8_2.length : Int) : Int) := oZ
                       obtain ⟨hx53_0, hf53_0⟩ := Kd.R_celln false HO_8.out (((rd_T59 l0_1 x10_2).f2) : Int) p53 q53
                       replace p53 := eq_true p53
                       replace q53 := eq_true q53
                       have HP93 := Kd.R_putg HO_8.out (((rd_T59 l0_1 x10_2).f2) : Int) true
                       iterate 5 (go_wp2_with (first | ((with_reducible refine gate_store (t := 4) (p := 74) rfl ?_); (try (rw [drewN_self wr]; generalize hq_ : World.drewN wr _ = wr; have n0_ := Aside0.mk (Kd.R_at hq_ HO_6.out); have n1_ := Aside0.mk (Kd.R_at hq_ HO_7.out); have n2_ := Aside0.mk (Kd.R_at hq_ HO_8.out); have n3_ := Aside0.mk (below_at hq_ HB.out); clear hq_ HO_6 HO_7 HO_8 HB; have HO_6 := n0_; have HO_7 := n1_; have HO_8 := n2_; have HB := n3_; clear n0_ n1_ n2_ n3_; (try (have HP93 := Kd.R_putg HO_8.out (((rd_T59 l0_1 x10_2).f2) : Int) true)); (try (obtain ⟨hx53_0, hf53_0⟩ := Kd.R_celln false HO_8.out (((rd_T59 l0_1 x10_2).f2) : Int) (of_eq_true p53) (of_eq_true q53))))); refine store_event (t := 4) (p := 74) (v := ?vo_w94) (w1 := (wr.setCell ⟨go8, (((rd_T59 l0_1 x10_2).f2) : Int).toNat, none⟩ (.bool true))) ?hg ?ho ?hn ?hr ?_; (case ho => rfl); (case hg => rfl); (case hn => rfl); (case hr => first | (go_simp; done) | (go_simp; rfl)); intro w94 hw; have hg : wr.grownBy w94 (some go8) := (by rw [hw]; exact HP93.2); have hp_ : Kd.R Kd.bool 4 w94 w.heap.size (fun _ => True) (.slice (some ⟨go8, 0, none⟩) x8_2.length co8) y183 := (by rw [hw, Ny183.out]; exact HP93.1); clear HP93; have n0_ := Aside0.mk (Kd.R_over' (v := (.slice (some ⟨go8, 0, none⟩) x8_2.length co8)) (Kd.rZ HO_6.out) (Kd.R_typed HO_8.out) (by decide) hg); have n1_ := Aside0.mk (Kd.R_over' (v := (.slice (some ⟨go8, 0, none⟩) x8_2.length co8)) (Kd.rZ HO_7.out) (Kd.R_typed HO_8.out) (by decide) hg); have n2_ := Aside0.mk (hp_); have n3_ := Aside0.mk ((by rw [hw]; exact below_set (HB.out) GB8.out : Below w.heap.size w w94)); clear HO_6; clear HO_7; clear HO_8; clear HB; have HO_6 := n0_; have HO_7 := n1_; have HO_8 := n2_; have HB := n3_; clear n0_ n1_ n2_ n3_; clear hg hw hp_; have p184 : 0 ≤ (x10_2 : Int) := oZ; have q184 : x10_2 < (l0_1.length : Int) := oZ; obtain ⟨ad184, e184, hx184_0, hx184_1, hx184_2, hx184_3, hx184_4, hx184_5⟩ := at_T59 HR0_1.out x10_2 p184 q184; obtain rfl : ad165 = ad184 := (by injection e184); replace hx184_0 := (HB.out.cell (World.block_lt_of_cell? w _ hx184_0)).trans hx184_0; replace hx184_1 := (HB.out.cell (World.block_lt_of_cell? w _ hx184_1)).trans hx184_1; replace hx184_2 := (HB.out.cell (World.block_lt_of_cell? w _ hx184_2)).trans hx184_2; replace hx184_3 := (HB.out.cell (World.block_lt_of_cell? w _ hx184_3)).trans hx184_3; replace hx184_4 := (HB.out.cell (World.block_lt_of_cell? w _ hx184_4)).trans hx184_4; replace hx184_5 := (HB.out.cell (World.block_lt_of_cell? w _ hx184_5)).trans hx184_5; replace p184 := eq_true p184; replace q184 := eq_true q184; have p55 : 0 ≤ (((rd_T59 l0_1 x10_2).f2) : Int) := oZ; have q55 : (((rd_T59 l0_1 x10_2).f2) : Int) < ((x7_2.length : Int) : Int) := oZ; obtain ⟨go55, co55, eo55, gb55, gl55, cl55, HG55⟩ := Kd.R_form HO_7.out (by omega); (first | cases eo55 | (injection eo55 with ea_ en_ ec_; (first | subst ea_ | (injection ea_ with ea_; subst ea_)); subst ec_; clear en_)); have GB55 := Aside0.mk gb55; have GG55 := Aside0.mk HG55; clear gb55 gl55 HG55; obtain ⟨hx55_0, hf55_0⟩ := Kd.R_celln 0 HO_7.out (((rd_T59 l0_1 x10_2).f2) : Int) p55 q55; replace p55 := eq_true p55; replace q55 := eq_true q55; obtain ⟨hy95_, hz95_⟩ := Kd.R_celln 0 HO_7.out (((rd_T59 l0_1 x10_2).f2) : Int) oZ oZ; have HP95 := Kd.R_putg HO_7.out (((rd_T59 l0_1 x10_2).f2) : Int) (wrap64 (x10_2 + 1))) | ((with_reducible refine gate_store (t := 2) (p := 82) rfl ?_); (try (rw [drewN_self w94]; generalize hq_ : World.drewN w94 _ = w94; have n0_ := Aside0.mk (Kd.R_at hq_ HO_6.out); have n1_ := Aside0.mk (Kd.R_at hq_ HO_7.out); have n2_ := Aside0.mk (Kd.R_at hq_ HO_8.out); have n3_ := Aside0.mk (below_at hq_ HB.out); clear hq_ HO_6 HO_7 HO_8 HB; have HO_6 := n0_; have HO_7 := n1_; have HO_8 := n2_; have HB := n3_; clear n0_ n1_ n2_ n3_; (try (obtain ⟨hy95_, hz95_⟩ := Kd.R_celln 0 HO_7.out (((rd_T59 l0_1 x10_2).f2) : Int) oZ oZ)); (try (have HP95 := Kd.R_putg HO_7.out (((rd_T59 l0_1 x10_2).f2) : Int) (wrap64 (x10_2 + 1)))))); refine store_event (t := 2) (p := 82) (v := ?vo_w96) (w1 := (w94.setCell ⟨go55, (((rd_T59 l0_1 x10_2).f2) : Int).toNat, none⟩ (.int .i64 (wrap64 (x10_2 + 1))))) ?hg ?ho ?hn ?hr ?_; (case ho => rfl); (case hg => rfl); (case hn => rfl); (case hr => first | (go_simp; done) | (go_simp; rfl)); intro w96 hw; have hg : w94.grownBy w96 (some go55) := (by rw [hw]; exact HP95.2); have hp_ : Kd.R (Kd.int .i64) 2 w96 w.heap.size (fun k_ => some k_ ≠ (.slice (some ad167) x6_2.length co92 : Value).ownBlock) (.slice (some ⟨go55, 0, none⟩) x7_2.length co55) y185 := (by rw [hw, Ny185.out]; exact HP95.1); clear HP95; have n0_ := Aside0.mk (Kd.R_after (v := (.slice (some ⟨go55, 0, none⟩) x7_2.length co55)) (v1 := (.slice (some ⟨go55, 0, none⟩) x7_2.length co55)) (ok := (fun _ => True)) (Kd.rZ (Kd.R_mono HO_6.out (fun _ hk => ⟨trivial, hk⟩))) hg (.inl rfl)); have n1_ := Aside0.mk (hp_); have n2_ := Aside0.mk (Kd.R_over' (v := (.slice (some ⟨go55, 0, none⟩) x7_2.length co55)) (Kd.rZ HO_8.out) (Kd.R_typed HO_7.out) (by decide) hg); have n3_ := Aside0.mk ((by rw [hw]; exact below_set (HB.out) GB55.out : Below w.heap.size w w96)); clear HO_6; clear HO_7; clear HO_8; clear HB; have HO_6 := n0_; have HO_7 := n1_; have HO_8 := n2_; have HB := n3_; clear n0_ n1_ n2_ n3_; clear hg hw hp_; have p186 : 0 ≤ (x10_2 : Int) := oZ; have q186 : x10_2 < (l0_1.length : Int) := oZ; obtain ⟨ad186, e186, hx186_0, hx186_1, hx186_2, hx186_3, hx186_4, hx186_5⟩ := at_T59 HR0_1.out x10_2 p186 q186; obtain rfl : ad165 = ad186 := (by injection e186); replace hx186_0 := (HB.out.cell (World.block_lt_of_cell? w _ hx186_0)).trans hx186_0; replace hx186_1 := (HB.out.cell (World.block_lt_of_cell? w _ hx186_1)).trans hx186_1; replace hx186_2 := (HB.out.cell (World.block_lt_of_cell? w _ hx186_2)).trans hx186_2; replace hx186_3 := (HB.out.cell (World.block_lt_of_cell? w _ hx186_3)).trans hx186_3; replace hx186_4 := (HB.out.cell (World.block_lt_of_cell? w _ hx186_4)).trans hx186_4; replace hx186_5 := (HB.out.cell (World.block_lt_of_cell? w _ hx186_5)).trans hx186_5; replace p186 := eq_true p186; replace q186 := eq_true q186) | ((with_reducible refine gate_builtin (b := .append) (xs := #[.tmp 83, .tmp 88]) rfl ?_); at_builtin; refine Kd.R_append (Kd.int .i64) (w0 := w) w.heap.size rfl (.tmp 83) (.tmp 88) 22 2 (.int .i64 0) 8 rfl Try.underlying22 info2 rfl (by decide) (by omega) (.slice (some ad167) x6_2.length co92) x6_2 ((rd_T59 l0_1 x10_2).f2) [.int .i64 ((rd_T59 l0_1 x10_2).f2)] (fun k_ => some k_ ≠ (.slice (some ⟨go55, 0, none⟩) x7_2.length co55 : Value).ownBlock) (fun _ => False) rfl rfl ?aP (fun _ hk => hk.elim) ?aF ?aO ?aB ?aS ?aL ?_; (case aP => exact rfl); (case aB => exact bZ); (case aF => exact (fun k_ hk => Kd.fresh' (Kd.R_lt (Kd.rZ HO_7.out)) k_ hk)); (case aO => exact (Kd.rZ (Kd.R_mono HO_6.out (fun _ hk => hk.2)))); (case aS => exact bsZ); (case aL => have := LMc56.out; omega); intro v188 w97 ho hb hg hat; rw [← Ny187.out] at ho; have n0_ := Aside0.mk (Kd.R_after (ok := (fun _ => True)) (Kd.rZ (Kd.R_mono HO_7.out (fun _ hk => ⟨trivial, hk⟩))) hg hat); have n1_ := Aside0.mk (Kd.R_over' (Kd.rZ HO_8.out) (Kd.R_typed (Kd.rZ HO_6.out)) (by decide) hg); have n2_ := Aside0.mk (hb); have n3_ := Aside0.mk (ho); clear HO_7; clear HO_8; clear HB; clear HO_6; have HO_7 := n0_; have HO_8 := n1_; have HB := n2_; have HO189 := n3_; clear n0_ n1_ n2_ n3_; clear ho hb hg hat; have p190 : 0 ≤ (x10_2 : Int) := oZ; have q190 : x10_2 < (l0_1.length : Int) := oZ; obtain ⟨ad190, e190, hx190_0, hx190_1, hx190_2, hx190_3, hx190_4, hx190_5⟩ := at_T59 HR0_1.out x10_2 p190 q190; obtain rfl : ad165 = ad190 := (by injection e190); replace hx190_0 := (HB.out.cell (World.block_lt_of_cell? w _ hx190_0)).trans hx190_0; replace hx190_1 := (HB.out.cell (World.block_lt_of_cell? w _ hx190_1)).trans hx190_1; replace hx190_2 := (HB.out.cell (World.block_lt_of_cell? w _ hx190_2)).trans hx190_2; replace hx190_3 := (HB.out.cell (World.block_lt_of_cell? w _ hx190_3)).trans hx190_3; replace hx190_4 := (HB.out.cell (World.block_lt_of_cell? w _ hx190_4)).trans hx190_4; replace hx190_5 := (HB.out.cell (World.block_lt_of_cell? w _ hx190_5)).trans hx190_5; replace p190 := eq_true p190; replace q190 := eq_true q190; obtain ⟨Ao98, co98, eo98⟩ := Kd.R_slice HO189.out; subst eo98; have p191 : 0 ≤ (x9_1 : Int) := oZ; have q191 : x9_1 < (y187.length : Int) := oZ; obtain ⟨ad191, e191, hx191_0⟩ := Kd.at_int (Kd.R_reads' HO189.out).2.2 x9_1 p191 q191; cases e191; replace p191 := eq_true p191; replace q191 := eq_true q191)); try go_quiet (fail))
                       (try simp only [← hl8_2])
                       go_roundg k2
                       case measure => have := HK1.out; have := HK2.out; omega
                       case rel => exact ⟨(y187), (y185), (y183), (wrap64 (x10_2 + 1)), sZ, H', ⟨by have := HK1.out; have := HK2.out; omega⟩, ⟨by (try simp only [hl8_1]); (try simp only [hl8_2]); (with_reducible repeat (first | apply Kd.R_alloc | apply Kd.R_drewN | apply Kd.R_drew)); exact HO189.out⟩, ⟨by (try simp only [hl8_1]); (try simp only [hl8_2]); (with_reducible repeat (first | apply Kd.R_alloc | apply Kd.R_drewN | apply Kd.R_drew)); exact Kd.R_mono HO_7.out (fun _ hk => hk.2)⟩, ⟨by (try simp only [hl8_1]); (try simp only [hl8_2]); (with_reducible repeat (first | apply Kd.R_alloc | apply Kd.R_drewN | apply Kd.R_drew)); exact HO_8.out⟩, ⟨bZ⟩⟩
                     ·rw [if_neg c57] at H
                      exact absurd H (by simp)
                    ·rw [if_neg c56] at H
                     exact absurd H (by simp)
                   ·rw [if_neg c54] at H
                    exact absurd H (by simp)
                 ·rw [if_neg c27] at H
                  exact absurd H (by simp)
                ·rw [if_neg c26] at H
                 exact absurd H (by simp)
               ·rw [if_neg c25] at H
                have c25b0 : (((rd_T59 l0_1 x10_2).f1) == (rd x6_2 x9_1)) = false := beq_eq_false_iff_ne.mpr c25
                have c25b1 : (((rd_T59 l0_1 x10_2).f1) != (rd x6_2 x9_1)) = true := bne_iff_ne.mpr c25
                by_cases c99 : ((rd_T59 l0_1 x10_2).f2) = (rd x6_2 x9_1)
                ·rw [if_pos c99] at H
                 have c99b0 : (((rd_T59 l0_1 x10_2).f2) == (rd x6_2 x9_1)) = true := beq_iff_eq.mpr c99
                 have c99b1 : (((rd_T59 l0_1 x10_2).f2) != (rd x6_2 x9_1)) = false := bne_eq_false_iff_eq.mpr c99
                 clear c99
                 by_cases c100 : 0 ≤ ((rd_T59 l0_1 x10_2).f1)
                 ·rw [if_pos c100] at H
                  have c100b0 : decide (0 ≤ ((rd_T59 l0_1 x10_2).f1)) = true := decide_eq_true c100
                  clear c100
                  by_cases c101 : ((rd_T59 l0_1 x10_2).f1) < (x8_2.length : Int)
                  ·rw [if_pos c101] at H
                   have c101b0 : decide (((rd_T59 l0_1 x10_2).f1) < (x8_2.length : Int)) = true := decide_eq_true c101
                   clear c101
                   obtain ⟨bq102, hbq102⟩ : ∃ b_ : Bool, b_ = (rdOf false x8_2 ((rd_T59 l0_1 x10_2).f1)) := ⟨_, rfl⟩
                   replace H : (if (bq102 = true) then (spec_l07Order.l1 k2 x6_2 x7_2 x8_2 x9_1 (wrap64 (x10_2 + 1)) l0_0 l0_1) else (if ((rd_T59 l0_1 x10_2).f1) < (x7_2.length : Int) then (if x6_2.length < 17592186044416 then (spec_l07Order.l1 k2 (x6_2 ++ [(rd_T59 l0_1 x10_2).f1]) (x7_2.set (((rd_T59 l0_1 x10_2).f1) : Int).toNat (wrap64 ((wrap64 (-x10_2)) - 1))) (x8_2.set (((rd_T59 l0_1 x10_2).f1) : Int).toNat true) x9_1 (wrap64 (x10_2 + 1)) l0_0 l0_1) else (none)) else (none))) = some (r1, r2) := by rw [← hbq102] at H; exact H
                   have Nbq102 := Aside0.mk hbq102
                   clear hbq102
                   by_cases c103 : (bq102 = true)
                   ·subst c103
                    have H1 : (spec_l07Order.l1 k2 x6_2 x7_2 x8_2 x9_1 (wrap64 (x10_2 + 1)) l0_0 l0_1) = some (r1, r2) := by rw [if_pos rfl] at H; exact H
                    clear H
                    have H := H1
                    clear H1
                    have H' := Aside0.mk H
                    clear H
                    have hvx104 := (HB.out.cell (World.block_lt_of_cell? w _ hvw0_1)).trans hvw0_1
                    have hvx105 := (HB.out.cell (World.block_lt_of_cell? w _ hvw0_1)).trans hvw0_1
                    have p165 : 0 ≤ (x10_2 : Int) := oZ
                    have q165 : x10_2 < (l0_1.length : Int) := oZ
                    obtain ⟨ad165, e165, hx165_0, hx165_1, hx165_2, hx165_3, hx165_4, hx165_5⟩ := at_T59 HR0_1.out x10_2 p165 q165
                    cases e165
                    replace hx165_0 := (HB.out.cell (World.block_lt_of_cell? w _ hx165_0)).trans hx165_0
                    replace hx165_1 := (HB.out.cell (World.block_lt_of_cell? w _ hx165_1)).trans hx165_1
                    replace hx165_2 := (HB.out.cell (World.block_lt_of_cell? w _ hx165_2)).trans hx165_2
                    replace hx165_3 := (HB.out.cell (World.block_lt_of_cell? w _ hx165_3)).trans hx165_3
                    replace hx165_4 := (HB.out.cell (World.block_lt_of_cell? w _ hx165_4)).trans hx165_4
                    replace hx165_5 := (HB.out.cell (World.block_lt_of_cell? w _ hx165_5)).trans hx165_5
                    replace p165 := eq_true p165
                    replace q165 := eq_true q165
                    have p166 : 0 ≤ (x10_2 : Int) := oZ
                    have q166 : x10_2 < (l0_1.length : Int) := oZ
                    obtain ⟨ad166, e166, hx166_0, hx166_1, hx166_2, hx166_3, hx166_4, hx166_5⟩ := at_T59 HR0_1.out x10_2 p166 q166
                    obtain rfl : ad165 = ad166 := (by injection e166)
                    replace hx166_0 := (HB.out.cell (World.block_lt_of_cell? w _ hx166_0)).trans hx166_0
                    replace hx166_1 := (HB.out.cell (World.block_lt_of_cell? w _ hx166_1)).trans hx166_1
                    replace hx166_2 := (HB.out.cell (World.block_lt_of_cell? w _ hx166_2)).trans hx166_2
                    replace hx166_3 := (HB.out.cell (World.block_lt_of_cell? w _ hx166_3)).trans hx166_3
                    replace hx166_4 := (HB.out.cell (World.block_lt_of_cell? w _ hx166_4)).trans hx166_4
                    replace hx166_5 := (HB.out.cell (World.block_lt_of_cell? w _ hx166_5)).trans hx166_5
                    replace p166 := eq_true p166
                    replace q166 := eq_true q166
                    obtain ⟨Ao106, co106, eo106⟩ := Kd.R_slice HO_6.out
                    subst eo106
                    have p167 : 0 ≤ (x9_1 : Int) := oZ
                    have q167 : x9_1 < (x6_2.length : Int) := oZ
                    obtain ⟨ad167, e167, hx167_0⟩ := Kd.at_int (Kd.R_reads' HO_6.out).2.2 x9_1 p167 q167
                    cases e167
                    replace p167 := eq_true p167
                    replace q167 := eq_true q167
                    have p202 : 0 ≤ (x10_2 : Int) := oZ
                    have q202 : x10_2 < (l0_1.length : Int) := oZ
                    obtain ⟨ad202, e202, hx202_0, hx202_1, hx202_2, hx202_3, hx202_4, hx202_5⟩ := at_T59 HR0_1.out x10_2 p202 q202
                    obtain rfl : ad165 = ad202 := (by injection e202)
                    replace hx202_0 := (HB.out.cell (World.block_lt_of_cell? w _ hx202_0)).trans hx202_0
                    replace hx202_1 := (HB.out.cell (World.block_lt_of_cell? w _ hx202_1)).trans hx202_1
                    replace hx202_2 := (HB.out.cell (World.block_lt_of_cell? w _ hx202_2)).trans hx202_2
                    replace hx202_3 := (HB.out.cell (World.block_lt_of_cell? w _ hx202_3)).trans hx202_3
                    replace hx202_4 := (HB.out.cell (World.block_lt_of_cell? w _ hx202_4)).trans hx202_4
                    replace hx202_5 := (HB.out.cell (World.block_lt_of_cell? w _ hx202_5)).trans hx202_5
                    replace p202 := eq_true p202
                    replace q202 := eq_true q202
                    have p203 : 0 ≤ (x9_1 : Int) := oZ
                    have q203 : x9_1 < (x6_2.length : Int) := oZ
                    obtain ⟨ad203, e203, hx203_0⟩ := Kd.at_int (Kd.R_reads' HO_6.out).2.2 x9_1 p203 q203
                    obtain rfl : ad167 = ad203 := (by injection e203)
                    replace p203 := eq_true p203
                    replace q203 := eq_true q203
                    have p204 : 0 ≤ (x10_2 : Int) := oZ
                    have q204 : x10_2 < (l0_1.length : Int) := oZ
                    obtain ⟨ad204, e204, hx204_0, hx204_1, hx204_2, hx204_3, hx204_4, hx204_5⟩ := at_T59 HR0_1.out x10_2 p204 q204
                    obtain rfl : ad165 = ad204 := (by injection e204)
                    replace hx204_0 := (HB.out.cell (World.block_lt_of_cell? w _ hx204_0)).trans hx204_0
                    replace hx204_1 := (HB.out.cell (World.block_lt_of_cell? w _ hx204_1)).trans hx204_1
                    replace hx204_2 := (HB.out.cell (World.block_lt_of_cell? w _ hx204_2)).trans hx204_2
                    replace hx204_3 := (HB.out.cell (World.block_lt_of_cell? w _ hx204_3)).trans hx204_3
                    replace hx204_4 := (HB.out.cell (World.block_lt_of_cell? w _ hx204_4)).trans hx204_4
                    replace hx204_5 := (HB.out.cell (World.block_lt_of_cell? w _ hx204_5)).trans hx204_5
                    replace p204 := eq_true p204
                    replace q204 := eq_true q204
                    have p205 : 0 ≤ (((rd_T59 l0_1 x10_2).f1) : Int) := oZ
                    have q205 : ((rd_T59 l0_1 x10_2).f1) < (x8_2.length : Int) := oZ
                    obtain ⟨ad205, e205, hx205_0⟩ := Kd.at_bool (Kd.R_reads' HO_8.out).2.2 ((rd_T59 l0_1 x10_2).f1) p205 q205
                    (try rw [← Nbq102.out] at hx205_0)
                    obtain rfl : (⟨go8, 0, none⟩ : Addr) = ad205 := (by injection e205)
                    (first | simp only [add_plain] at hx205_0 | simp only [add_at] at hx205_0 | simp only [Addr.add, Nat.zero_add] at hx205_0 | skip)
                    replace p205 := eq_true p205
                    replace q205 := eq_true q205
                    iterate 5 (go_wp2; try go_quiet (fail))
                    (try simp only [← hl8_2])
                    go_roundg k2
                    case measure => have := HK1.out; have := HK2.out; omega
                    case rel => exact ⟨(x6_2), (x7_2), (x8_2), (wrap64 (x10_2 + 1)), sZ, H', ⟨by have := HK1.out; have := HK2.out; omega⟩, ⟨by (try simp only [hl8_1]); (try simp only [hl8_2]); (with_reducible repeat (first | apply Kd.R_alloc | apply Kd.R_drewN | apply Kd.R_drew)); exact HO_6.out⟩, ⟨by (try simp only [hl8_1]); (try simp only [hl8_2]); (with_reducible repeat (first | apply Kd.R_alloc | apply Kd.R_drewN | apply Kd.R_drew)); exact HO_7.out⟩, ⟨by (try simp only [hl8_1]); (try simp only [hl8_2]); (with_reducible repeat (first | apply Kd.R_alloc | apply Kd.R_drewN | apply Kd.R_drew)); exact HO_8.out⟩, ⟨bZ⟩⟩
                   ·replace c103 := Bool.eq_false_iff.mpr c103
                    subst c103
                    have H1 : (if ((rd_T59 l0_1 x10_2).f1) < (x7_2.length : Int) then (if x6_2.length < 17592186044416 then (spec_l07Order.l1 k2 (x6_2 ++ [(rd_T59 l0_1 x10_2).f1]) (x7_2.set (((rd_T59 l0_1 x10_2).f1) : Int).toNat (wrap64 ((wrap64 (-x10_2)) - 1))) (x8_2.set (((rd_T59 l0_1 x10_2).f1) : Int).toNat true) x9_1 (wrap64 (x10_2 + 1)) l0_0 l0_1) else (none)) else (none)) = some (r1, r2) := by rw [if_neg (show ¬ (false = true) by decide)] at H; exact H
                    clear H
                    have H := H1
                    clear H1
                    obtain ⟨y207, hy207⟩ : ∃ y_ : List Bool, y_ = (x8_2.set (((rd_T59 l0_1 x10_2).f1) : Int).toNat true) := ⟨_, rfl⟩
                    replace H : (if ((rd_T59 l0_1 x10_2).f1) < (x7_2.length : Int) then (if x6_2.length < 17592186044416 then (spec_l07Order.l1 k2 (x6_2 ++ [(rd_T59 l0_1 x10_2).f1]) (x7_2.set (((rd_T59 l0_1 x10_2).f1) : Int).toNat (wrap64 ((wrap64 (-x10_2)) - 1))) y207 x9_1 (wrap64 (x10_2 + 1)) l0_0 l0_1) else (none)) else (none)) = some (r1, r2) := by first | (rw [hy207]; with_reducible exact H) | (have H2_ := (Option.bind_some _ _).symm.trans H; rw [hy207]; with_reducible exact H2_) | (have H2_ := (Option.bind_some _ _).symm.trans H; with_reducible exact H2_) | with_reducible exact H | (rw [hy207]; exact H) | exact H
                    have Ny207 := Aside0.mk hy207
                    clear hy207
                    by_cases c108 : ((rd_T59 l0_1 x10_2).f1) < (x7_2.length : Int)
                    ·rw [if_pos c108] at H
                     have c108b0 : decide (((rd_T59 l0_1 x10_2).f1) < (x7_2.length : Int)) = true := decide_eq_true c108
                     clear c108
                     obtain ⟨y209, hy209⟩ : ∃ y_ : List Int, y_ = (x7_2.set (((rd_T59 l0_1 x10_2).f1) : Int).toNat (wrap64 ((wrap64 (-x10_2)) - 1))) := ⟨_, rfl⟩
                     replace H : (if x6_2.length < 17592186044416 then (spec_l07Order.l1 k2 (x6_2 ++ [(rd_T59 l0_1 x10_2).f1]) y209 y207 x9_1 (wrap64 (x10_2 + 1)) l0_0 l0_1) else (none)) = some (r1, r2) := by first | (rw [hy209]; with_reducible exact H) | (have H2_ := (Option.bind_some _ _).symm.trans H; rw [hy209]; with_reducible exact H2_) | (have H2_ := (Option.bind_some _ _).symm.trans H; with_reducible exact H2_) | with_reducible exact H | (rw [hy209]; exact H) | exact H
                     have Ny209 := Aside0.mk hy209
                     clear hy209
                     by_cases c110 : x6_2.length < 17592186044416
                     ·rw [if_pos c110] at H
                      have LMc110 := Aside0.mk c110
                      clear c110
                      obtain ⟨y211, hy211⟩ : ∃ y_ : List Int, y_ = (x6_2 ++ [(rd_T59 l0_1 x10_2).f1]) := ⟨_, rfl⟩
                      replace H : (spec_l07Order.l1 k2 y211 y209 y207 x9_1 (wrap64 (x10_2 + 1)) l0_0 l0_1) = some (r1, r2) := by first | (rw [hy211]; with_reducible exact H) | (have H2_ := (Option.bind_some _ _).symm.trans H; rw [hy211]; with_reducible exact H2_) | (have H2_ := (Option.bind_some _ _).symm.trans H; with_reducible exact H2_) | with_reducible exact H | (rw [hy211]; exact H) | exact H
                      have Ny211 := Aside0.mk hy211
                      clear hy211
                      have H' := Aside0.mk H
                      clear H
                      have hvx111 := (HB.out.cell (World.block_lt_of_cell? w _ hvw0_1)).trans hvw0_1
                      have hvx112 := (HB.out.cell (World.block_lt_of_cell? w _ hvw0_1)).trans hvw0_1
                      have p165 : 0 ≤ (x10_2 : Int) := oZ
                      have q165 : x10_2 < (l0_1.length : Int) := oZ
                      obtain ⟨ad165, e165, hx165_0, hx165_1, hx165_2, hx165_3, hx165_4, hx165_5⟩ := at_T59 HR0_1.out x10_2 p165 q165
                      cases e165
                      replace hx165_0 := (HB.out.cell (World.block_lt_of_cell? w _ hx165_0)).trans hx165_0
                      replace hx165_1 := (HB.out.cell (World.block_lt_of_cell? w _ hx165_1)).trans hx165_1
                      replace hx165_2 := (HB.out.cell (World.block_lt_of_cell? w _ hx165_2)).trans hx165_2
                      replace hx165_3 := (HB.out.cell (World.block_lt_of_cell? w _ hx165_3)).trans hx165_3
                      replace hx165_4 := (HB.out.cell (World.block_lt_of_cell? w _ hx165_4)).trans hx165_4
                      replace hx165_5 := (HB.out.cell (World.block_lt_of_cell? w _ hx165_5)).trans hx165_5
                      replace p165 := eq_true p165
                      replace q165 := eq_true q165
                      have p166 : 0 ≤ (x10_2 : Int) := oZ
                      have q166 : x10_2 < (l0_1.length : Int) := oZ
                      obtain ⟨ad166, e166, hx166_0, hx166_1, hx166_2, hx166_3, hx166_4, hx166_5⟩ := at_T59 HR0_1.out x10_2 p166 q166
                      obtain rfl : ad165 = ad166 := (by injection e166)
                      replace hx166_0 := (HB.out.cell (World.block_lt_of_cell? w _ hx166_0)).trans hx166_0
                      replace hx166_1 := (HB.out.cell (World.block_lt_of_cell? w _ hx166_1)).trans hx166_1
                      replace hx166_2 := (HB.out.cell (World.block_lt_of_cell? w _ hx166_2)).trans hx166_2
                      replace hx166_3 := (HB.out.cell (World.block_lt_of_cell? w _ hx166_3)).trans hx166_3
                      replace hx166_4 := (HB.out.cell (World.block_lt_of_cell? w _ hx166_4)).trans hx166_4
                      replace hx166_5 := (HB.out.cell (World.block_lt_of_cell? w _ hx166_5)).trans hx166_5
                      replace p166 := eq_true p166
                      replace q166 := eq_true q166
                      obtain ⟨Ao113, co113, eo113⟩ := Kd.R_slice HO_6.out
                      subst eo113
                      have p167 : 0 ≤ (x9_1 : Int) := oZ
                      have q167 : x9_1 < (x6_2.length : Int) := oZ
                      obtain ⟨ad167, e167, hx167_0⟩ := Kd.at_int (Kd.R_reads' HO_6.out).2.2 x9_1 p167 q167
                      cases e167
                      replace p167 := eq_true p167
                      replace q167 := eq_true q167
                      have p202 : 0 ≤ (x10_2 : Int) := oZ
                      have q202 : x10_2 < (l0_1.length : Int) := oZ
                      obtain ⟨ad202, e202, hx202_0, hx202_1, hx202_2, hx202_3, hx202_4, hx202_5⟩ := at_T59 HR0_1.out x10_2 p202 q202
                      obtain rfl : ad165 = ad202 := (by injection e202)
                      replace hx202_0 := (HB.out.cell (World.block_lt_of_cell? w _ hx202_0)).trans hx202_0
                      replace hx202_1 := (HB.out.cell (World.block_lt_of_cell? w _ hx202_1)).trans hx202_1
                      replace hx202_2 := (HB.out.cell (World.block_lt_of_cell? w _ hx202_2)).trans hx202_2
                      replace hx202_3 := (HB.out.cell (World.block_lt_of_cell? w _ hx202_3)).trans hx202_3
                      replace hx202_4 := (HB.out.cell (World.block_lt_of_cell? w _ hx202_4)).trans hx202_4
                      replace hx202_5 := (HB.out.cell (World.block_lt_of_cell? w _ hx202_5)).trans hx202_5
                      replace p202 := eq_true p202
                      replace q202 := eq_true q202
                      have p203 : 0 ≤ (x9_1 : Int) := oZ
                      have q203 : x9_1 < (x6_2.length : Int) := oZ
                      obtain ⟨ad203, e203, hx203_0⟩ := Kd.at_int (Kd.R_reads' HO_6.out).2.2 x9_1 p203 q203
                      obtain rfl : ad167 = ad203 := (by injection e203)
                      replace p203 := eq_true p203
                      replace q203 := eq_true q203
                      have p204 : 0 ≤ (x10_2 : Int) := oZ
                      have q204 : x10_2 < (l0_1.length : Int) := oZ
                      obtain ⟨ad204, e204, hx204_0, hx204_1, hx204_2, hx204_3, hx204_4, hx204_5⟩ := at_T59 HR0_1.out x10_2 p204 q204
                      obtain rfl : ad165 = ad204 := (by injection e204)
                      replace hx204_0 := (HB.out.cell (World.block_lt_of_cell? w _ hx204_0)).trans hx204_0
                      replace hx204_1 := (HB.out.cell (World.block_lt_of_cell? w _ hx204_1)).trans hx204_1
                      replace hx204_2 := (HB.out.cell (World.block_lt_of_cell? w _ hx204_2)).trans hx204_2
                      replace hx204_3 := (HB.out.cell (World.block_lt_of_cell? w _ hx204_3)).trans hx204_3
                      replace hx204_4 := (HB.out.cell (World.block_lt_of_cell? w _ hx204_4)).trans hx204_4
                      replace hx204_5 := (HB.out.cell (World.block_lt_of_cell? w _ hx204_5)).trans hx204_5
                      replace p204 := eq_true p204
                      replace q204 := eq_true q204
                      have p205 : 0 ≤ (((rd_T59 l0_1 x10_2).f1) : Int) := oZ
                      have q205 : ((rd_T59 l0_1 x10_2).f1) < (x8_2.length : Int) := oZ
                      obtain ⟨ad205, e205, hx205_0⟩ := Kd.at_bool (Kd.R_reads' HO_8.out).2.2 ((rd_T59 l0_1 x10_2).f1) p205 q205
                      (try rw [← Nbq102.out] at hx205_0)
                      obtain rfl : (⟨go8, 0, none⟩ : Addr) = ad205 := (by injection e205)
                      (first | simp only [add_plain] at hx205_0 | simp only [add_at] at hx205_0 | simp only [Addr.add, Nat.zero_add] at hx205_0 | skip)
                      replace p205 := eq_true p205
                      replace q205 := eq_true q205
                      have p206 : 0 ≤ (x10_2 : Int) := oZ
                      have q206 : x10_2 < (l0_1.length : Int) := oZ
                      obtain ⟨ad206, e206, hx206_0, hx206_1, hx206_2, hx206_3, hx206_4, hx206_5⟩ := at_T59 HR0_1.out x10_2 p206 q206
                      obtain rfl : ad165 = ad206 := (by injection e206)
                      replace hx206_0 := (HB.out.cell (World.block_lt_of_cell? w _ hx206_0)).trans hx206_0
                      replace hx206_1 := (HB.out.cell (World.block_lt_of_cell? w _ hx206_1)).trans hx206_1
                      replace hx206_2 := (HB.out.cell (World.block_lt_of_cell? w _ hx206_2)).trans hx206_2
                      replace hx206_3 := (HB.out.cell (World.block_lt_of_cell? w _ hx206_3)).trans hx206_3
                      replace hx206_4 := (HB.out.cell (World.block_lt_of_cell? w _ hx206_4)).trans hx206_4
                      replace hx206_5 := (HB.out.cell (World.block_lt_of_cell? w _ hx206_5)).trans hx206_5
                      replace p206 := eq_true p206
                      replace q206 := eq_true q206
                      have p107 : 0 ≤ (((rd_T59 l0_1 x10_2).f1) : Int) := oZ
                      have q107 : (((rd_T59 l0_1 x10_2).f1) : Int) < ((x8_2.length : Int) : Int) := oZ
                      obtain ⟨hx107_0, hf107_0⟩ := Kd.R_celln false HO_8.out (((rd_T59 l0_1 x10_2).f1) : Int) p107 q107
                      replace p107 := eq_true p107
                      replace q107 := eq_true q107
                      have HP114 := Kd.R_putg HO_8.out (((rd_T59 l0_1 x10_2).f1) : Int) true
                      iterate 5 (go_wp2_with (first | ((with_reducible refine gate_store (t := 4) (p := 114) rfl ?_); (try (rw [drewN_self wr]; generalize hq_ : World.drewN wr _ = wr; have n0_ := Aside0.mk (Kd.R_at hq_ HO_6.out); have n1_ := Aside0.mk (Kd.R_at hq_ HO_7.out); have n2_ := Aside0.mk (Kd.R_at hq_ HO_8.out); have n3_ := Aside0.mk (below_at hq_ HB.out); clear hq_ HO_6 HO_7 HO_8 HB; have HO_6 := n0_; have HO_7 := n1_; have HO_8 := n2_; have HB := n3_; clear n0_ n1_ n2_ n3_; (try (have HP114 := Kd.R_putg HO_8.out (((rd_T59 l0_1 x10_2).f1) : Int) true)); (try (obtain ⟨hx107_0, hf107_0⟩ := Kd.R_celln false HO_8.out (((rd_T59 l0_1 x10_2).f1) : Int) (of_eq_true p107) (of_eq_true q107))))); refine store_event (t := 4) (p := 114) (v := ?vo_w115) (w1 := (wr.setCell ⟨go8, (((rd_T59 l0_1 x10_2).f1) : Int).toNat, none⟩ (.bool true))) ?hg ?ho ?hn ?hr ?_; (case ho => rfl); (case hg => rfl); (case hn => rfl); (case hr => first | (go_simp; done) | (go_simp; rfl)); intro w115 hw; have hg : wr.grownBy w115 (some go8) := (by rw [hw]; exact HP114.2); have hp_ : Kd.R Kd.bool 4 w115 w.heap.size (fun _ => True) (.slice (some ⟨go8, 0, none⟩) x8_2.length co8) y207 := (by rw [hw, Ny207.out]; exact HP114.1); clear HP114; have n0_ := Aside0.mk (Kd.R_over' (v := (.slice (some ⟨go8, 0, none⟩) x8_2.length co8)) (Kd.rZ HO_6.out) (Kd.R_typed HO_8.out) (by decide) hg); have n1_ := Aside0.mk (Kd.R_over' (v := (.slice (some ⟨go8, 0, none⟩) x8_2.length co8)) (Kd.rZ HO_7.out) (Kd.R_typed HO_8.out) (by decide) hg); have n2_ := Aside0.mk (hp_); have n3_ := Aside0.mk ((by rw [hw]; exact below_set (HB.out) GB8.out : Below w.heap.size w w115)); clear HO_6; clear HO_7; clear HO_8; clear HB; have HO_6 := n0_; have HO_7 := n1_; have HO_8 := n2_; have HB := n3_; clear n0_ n1_ n2_ n3_; clear hg hw hp_; have p208 : 0 ≤ (x10_2 : Int) := oZ; have q208 : x10_2 < (l0_1.length : Int) := oZ; obtain ⟨ad208, e208, hx208_0, hx208_1, hx208_2, hx208_3, hx208_4, hx208_5⟩ := at_T59 HR0_1.out x10_2 p208 q208; obtain rfl : ad165 = ad208 := (by injection e208); replace hx208_0 := (HB.out.cell (World.block_lt_of_cell? w _ hx208_0)).trans hx208_0; replace hx208_1 := (HB.out.cell (World.block_lt_of_cell? w _ hx208_1)).trans hx208_1; replace hx208_2 := (HB.out.cell (World.block_lt_of_cell? w _ hx208_2)).trans hx208_2; replace hx208_3 := (HB.out.cell (World.block_lt_of_cell? w _ hx208_3)).trans hx208_3; replace hx208_4 := (HB.out.cell (World.block_lt_of_cell? w _ hx208_4)).trans hx208_4; replace hx208_5 := (HB.out.cell (World.block_lt_of_cell? w _ hx208_5)).trans hx208_5; replace p208 := eq_true p208; replace q208 := eq_true q208; have p109 : 0 ≤ (((rd_T59 l0_1 x10_2).f1) : Int) := oZ; have q109 : (((rd_T59 l0_1 x10_2).f1) : Int) < ((x7_2.length : Int) : Int) := oZ; obtain ⟨go109, co109, eo109, gb109, gl109, cl109, HG109⟩ := Kd.R_form HO_7.out (by omega); (first | cases eo109 | (injection eo109 with ea_ en_ ec_; (first | subst ea_ | (injection ea_ with ea_; subst ea_)); subst ec_; clear en_)); have GB109 := Aside0.mk gb109; have GG109 := Aside0.mk HG109; clear gb109 gl109 HG109; obtain ⟨hx109_0, hf109_0⟩ := Kd.R_celln 0 HO_7.out (((rd_T59 l0_1 x10_2).f1) : Int) p109 q109; replace p109 := eq_true p109; replace q109 := eq_true q109; obtain ⟨hy116_, hz116_⟩ := Kd.R_celln 0 HO_7.out (((rd_T59 l0_1 x10_2).f1) : Int) oZ oZ; have HP116 := Kd.R_putg HO_7.out (((rd_T59 l0_1 x10_2).f1) : Int) (wrap64 ((wrap64 (-x10_2)) - 1))) | ((with_reducible refine gate_store (t := 2) (p := 123) rfl ?_); (try (rw [drewN_self w115]; generalize hq_ : World.drewN w115 _ = w115; have n0_ := Aside0.mk (Kd.R_at hq_ HO_6.out); have n1_ := Aside0.mk (Kd.R_at hq_ HO_7.out); have n2_ := Aside0.mk (Kd.R_at hq_ HO_8.out); have n3_ := Aside0.mk (below_at hq_ HB.out); clear hq_ HO_6 HO_7 HO_8 HB; have HO_6 := n0_; have HO_7 := n1_; have HO_8 := n2_; have HB := n3_; clear n0_ n1_ n2_ n3_; (try (obtain ⟨hy116_, hz116_⟩ := Kd.R_celln 0 HO_7.out (((rd_T59 l0_1 x10_2).f1) : Int) oZ oZ)); (try (have HP116 := Kd.R_putg HO_7.out (((rd_T59 l0_1 x10_2).f1) : Int) (wrap64 ((wrap64 (-x10_2)) - 1)))))); refine store_event (t := 2) (p := 123) (v := ?vo_w117) (w1 := (w115.setCell ⟨go109, (((rd_T59 l0_1 x10_2).f1) : Int).toNat, none⟩ (.int .i64 (wrap64 ((wrap64 (-x10_2)) - 1))))) ?hg ?ho ?hn ?hr ?_; (case ho => rfl); (case hg => rfl); (case hn => rfl); (case hr => first | (go_simp; done) | (go_simp; rfl)); intro w117 hw; have hg : w115.grownBy w117 (some go109) := (by rw [hw]; exact HP116.2); have hp_ : Kd.R (Kd.int .i64) 2 w117 w.heap.size (fun k_ => some k_ ≠ (.slice (some ad167) x6_2.length co113 : Value).ownBlock) (.slice (some ⟨go109, 0, none⟩) x7_2.length co109) y209 := (by rw [hw, Ny209.out]; exact HP116.1); clear HP116; have n0_ := Aside0.mk (Kd.R_after (v := (.slice (some ⟨go109, 0, none⟩) x7_2.length co109)) (v1 := (.slice (some ⟨go109, 0, none⟩) x7_2.length co109)) (ok := (fun _ => True)) (Kd.rZ (Kd.R_mono HO_6.out (fun _ hk => ⟨trivial, hk⟩))) hg (.inl rfl)); have n1_ := Aside0.mk (hp_); have n2_ := Aside0.mk (Kd.R_over' (v := (.slice (some ⟨go109, 0, none⟩) x7_2.length co109)) (Kd.rZ HO_8.out) (Kd.R_typed HO_7.out) (by decide) hg); have n3_ := Aside0.mk ((by rw [hw]; exact below_set (HB.out) GB109.out : Below w.heap.size w w117)); clear HO_6; clear HO_7; clear HO_8; clear HB; have HO_6 := n0_; have HO_7 := n1_; have HO_8 := n2_; have HB := n3_; clear n0_ n1_ n2_ n3_; clear hg hw hp_; have p210 : 0 ≤ (x10_2 : Int) := oZ; have q210 : x10_2 < (l0_1.length : Int) := oZ; obtain ⟨ad210, e210, hx210_0, hx210_1, hx210_2, hx210_3, hx210_4, hx210_5⟩ := at_T59 HR0_1.out x10_2 p210 q210; obtain rfl : ad165 = ad210 := (by injection e210); replace hx210_0 := (HB.out.cell (World.block_lt_of_cell? w _ hx210_0)).trans hx210_0; replace hx210_1 := (HB.out.cell (World.block_lt_of_cell? w _ hx210_1)).trans hx210_1; replace hx210_2 := (HB.out.cell (World.block_lt_of_cell? w _ hx210_2)).trans hx210_2; replace hx210_3 := (HB.out.cell (World.block_lt_of_cell? w _ hx210_3)).trans hx210_3; replace hx210_4 := (HB.out.cell (World.block_lt_of_cell? w _ hx210_4)).trans hx210_4; replace hx210_5 := (HB.out.cell (World.block_lt_of_cell? w _ hx210_5)).trans hx210_5; replace p210 := eq_true p210; replace q210 := eq_true q210) | ((with_reducible refine gate_builtin (b := .append) (xs := #[.tmp 124, .tmp 129]) rfl ?_); at_builtin; refine Kd.R_append (Kd.int .i64) (w0 := w) w.heap.size rfl (.tmp 124) (.tmp 129) 22 2 (.int .i64 0) 8 rfl Try.underlying22 info2 rfl (by decide) (by omega) (.slice (some ad167) x6_2.length co113) x6_2 ((rd_T59 l0_1 x10_2).f1) [.int .i64 ((rd_T59 l0_1 x10_2).f1)] (fun k_ => some k_ ≠ (.slice (some ⟨go109, 0, none⟩) x7_2.length co109 : Value).ownBlock) (fun _ => False) rfl rfl ?aP (fun _ hk => hk.elim) ?aF ?aO ?aB ?aS ?aL ?_; (case aP => exact rfl); (case aB => exact bZ); (case aF => exact (fun k_ hk => Kd.fresh' (Kd.R_lt (Kd.rZ HO_7.out)) k_ hk)); (case aO => exact (Kd.rZ (Kd.R_mono HO_6.out (fun _ hk => hk.2)))); (case aS => exact bsZ); (case aL => have := LMc110.out; omega); intro v212 w118 ho hb hg hat; rw [← Ny211.out] at ho; have n0_ := Aside0.mk (Kd.R_after (ok := (fun _ => True)) (Kd.rZ (Kd.R_mono HO_7.out (fun _ hk => ⟨trivial, hk⟩))) hg hat); have n1_ := Aside0.mk (Kd.R_over' (Kd.rZ HO_8.out) (Kd.R_typed (Kd.rZ HO_6.out)) (by decide) hg); have n2_ := Aside0.mk (hb); have n3_ := Aside0.mk (ho); clear HO_7; clear HO_8; clear HB; clear HO_6; have HO_7 := n0_; have HO_8 := n1_; have HB := n2_; have HO213 := n3_; clear n0_ n1_ n2_ n3_; clear ho hb hg hat)); try go_quiet (fail))
                      (try simp only [← hl8_2])
                      go_roundg k2
                      case measure => have := HK1.out; have := HK2.out; omega
                      case rel => exact ⟨(y211), (y209), (y207), (wrap64 (x10_2 + 1)), sZ, H', ⟨by have := HK1.out; have := HK2.out; omega⟩, ⟨by (try simp only [hl8_1]); (try simp only [hl8_2]); (with_reducible repeat (first | apply Kd.R_alloc | apply Kd.R_drewN | apply Kd.R_drew)); exact HO213.out⟩, ⟨by (try simp only [hl8_1]); (try simp only [hl8_2]); (with_reducible repeat (first | apply Kd.R_alloc | apply Kd.R_drewN | apply Kd.R_drew)); exact Kd.R_mono HO_7.out (fun _ hk => hk.2)⟩, ⟨by (try simp only [hl8_1]); (try simp only [hl8_2]); (with_reducible repeat (first | apply Kd.R_alloc | apply Kd.R_drewN | apply Kd.R_drew)); exact HO_8.out⟩, ⟨bZ⟩⟩
                     ·rw [if_neg c110] at H
                      exact absurd H (by simp)
                    ·rw [if_neg c108] at H
                     exact absurd H (by simp)
                  ·rw [if_neg c101] at H
                   exact absurd H (by simp)
                 ·rw [if_neg c100] at H
                  exact absurd H (by simp)
                ·rw [if_neg c99] at H
                 have c99b0 : (((rd_T59 l0_1 x10_2).f2) == (rd x6_2 x9_1)) = false := beq_eq_false_iff_ne.mpr c99
                 have c99b1 : (((rd_T59 l0_1 x10_2).f2) != (rd x6_2 x9_1)) = true := bne_iff_ne.mpr c99
                 have H' := Aside0.mk H
                 clear H
                 have hvx119 := (HB.out.cell (World.block_lt_of_cell? w _ hvw0_1)).trans hvw0_1
                 have hvx120 := (HB.out.cell (World.block_lt_of_cell? w _ hvw0_1)).trans hvw0_1
                 have p165 : 0 ≤ (x10_2 : Int) := oZ
                 have q165 : x10_2 < (l0_1.length : Int) := oZ
                 obtain ⟨ad165, e165, hx165_0, hx165_1, hx165_2, hx165_3, hx165_4, hx165_5⟩ := at_T59 HR0_1.out x10_2 p165 q165
                 cases e165
                 replace hx165_0 := (HB.out.cell (World.block_lt_of_cell? w _ hx165_0)).trans hx165_0
                 replace hx165_1 := (HB.out.cell (World.block_lt_of_cell? w _ hx165_1)).trans hx165_1
                 replace hx165_2 := (HB.out.cell (World.block_lt_of_cell? w _ hx165_2)).trans hx165_2
                 replace hx165_3 := (HB.out.cell (World.block_lt_of_cell? w _ hx165_3)).trans hx165_3
                 replace hx165_4 := (HB.out.cell (World.block_lt_of_cell? w _ hx165_4)).trans hx165_4
                 replace hx165_5 := (HB.out.cell (World.block_lt_of_cell? w _ hx165_5)).trans hx165_5
                 replace p165 := eq_true p165
                 replace q165 := eq_true q165
                 have p166 : 0 ≤ (x10_2 : Int) := oZ
                 have q166 : x10_2 < (l0_1.length : Int) := oZ
                 obtain ⟨ad166, e166, hx166_0, hx166_1, hx166_2, hx166_3, hx166_4, hx166_5⟩ := at_T59 HR0_1.out x10_2 p166 q166
                 obtain rfl : ad165 = ad166 := (by injection e166)
                 replace hx166_0 := (HB.out.cell (World.block_lt_of_cell? w _ hx166_0)).trans hx166_0
                 replace hx166_1 := (HB.out.cell (World.block_lt_of_cell? w _ hx166_1)).trans hx166_1
                 replace hx166_2 := (HB.out.cell (World.block_lt_of_cell? w _ hx166_2)).trans hx166_2
                 replace hx166_3 := (HB.out.cell (World.block_lt_of_cell? w _ hx166_3)).trans hx166_3
                 replace hx166_4 := (HB.out.cell (World.block_lt_of_cell? w _ hx166_4)).trans hx166_4
                 replace hx166_5 := (HB.out.cell (World.block_lt_of_cell? w _ hx166_5)).trans hx166_5
                 replace p166 := eq_true p166
                 replace q166 := eq_true q166
                 obtain ⟨Ao121, co121, eo121⟩ := Kd.R_slice HO_6.out
                 subst eo121
                 have p167 : 0 ≤ (x9_1 : Int) := oZ
                 have q167 : x9_1 < (x6_2.length : Int) := oZ
                 obtain ⟨ad167, e167, hx167_0⟩ := Kd.at_int (Kd.R_reads' HO_6.out).2.2 x9_1 p167 q167
                 cases e167
                 replace p167 := eq_true p167
                 replace q167 := eq_true q167
                 have p202 : 0 ≤ (x10_2 : Int) := oZ
                 have q202 : x10_2 < (l0_1.length : Int) := oZ
                 obtain ⟨ad202, e202, hx202_0, hx202_1, hx202_2, hx202_3, hx202_4, hx202_5⟩ := at_T59 HR0_1.out x10_2 p202 q202
                 obtain rfl : ad165 = ad202 := (by injection e202)
                 replace hx202_0 := (HB.out.cell (World.block_lt_of_cell? w _ hx202_0)).trans hx202_0
                 replace hx202_1 := (HB.out.cell (World.block_lt_of_cell? w _ hx202_1)).trans hx202_1
                 replace hx202_2 := (HB.out.cell (World.block_lt_of_cell? w _ hx202_2)).trans hx202_2
                 replace hx202_3 := (HB.out.cell (World.block_lt_of_cell? w _ hx202_3)).trans hx202_3
                 replace hx202_4 := (HB.out.cell (World.block_lt_of_cell? w _ hx202_4)).trans hx202_4
                 replace hx202_5 := (HB.out.cell (World.block_lt_of_cell? w _ hx202_5)).trans hx202_5
                 replace p202 := eq_true p202
                 replace q202 := eq_true q202
                 have p203 : 0 ≤ (x9_1 : Int) := oZ
                 have q203 : x9_1 < (x6_2.length : Int) := oZ
                 obtain ⟨ad203, e203, hx203_0⟩ := Kd.at_int (Kd.R_reads' HO_6.out).2.2 x9_1 p203 q203
                 obtain rfl : ad167 = ad203 := (by injection e203)
                 replace p203 := eq_true p203
                 replace q203 := eq_true q203
                 iterate 5 (go_wp2; try go_quiet (fail))
                 (try simp only [← hl8_2])
                 go_roundg k2
                 case measure => have := HK1.out; have := HK2.out; omega
                 case rel => exact ⟨(x6_2), (x7_2), (x8_2), (wrap64 (x10_2 + 1)), sZ, H', ⟨by have := HK1.out; have := HK2.out; omega⟩, ⟨by (try simp only [hl8_1]); (try simp only [hl8_2]); (with_reducible repeat (first | apply Kd.R_alloc | apply Kd.R_drewN | apply Kd.R_drew)); exact HO_6.out⟩, ⟨by (try simp only [hl8_1]); (try simp only [hl8_2]); (with_reducible repeat (first | apply Kd.R_alloc | apply Kd.R_drewN | apply Kd.R_drew)); exact HO_7.out⟩, ⟨by (try simp only [hl8_1]); (try simp only [hl8_2]); (with_reducible repeat (first | apply Kd.R_alloc | apply Kd.R_drewN | apply Kd.R_drew)); exact HO_8.out⟩, ⟨bZ⟩⟩
              ·rw [if_neg c24] at H
               exact absurd H (by simp)
             ·rw [if_neg c23] at H
              exact absurd H (by simp)
            ·rw [if_neg c22] at H
             exact absurd H (by simp)
           ·rw [if_neg c21] at H
            have c21b0 : decide (x10_2 < (l0_1.length : Int)) = false := decide_eq_false c21
            clear c21
            have H' := Aside0.mk H
            clear H
            have hvx122 := (HB.out.cell (World.block_lt_of_cell? w _ hvw0_1)).trans hvw0_1
            iterate 5 (go_wp2; try go_quiet (fail))
            (try simp only [← hl8_1, ← hl8_2])
            go_roundg k2
            case measure => have := HK1.out; have := HK2.out; omega
            case rel => exact ⟨(x6_2), (x7_2), (x8_2), (wrap64 (x9_1 + 1)), sZ, H', ⟨by have := HK1.out; have := HK2.out; omega⟩, ⟨by (try simp only [hl8_1]); (try simp only [hl8_2]); (with_reducible repeat (first | apply Kd.R_alloc | apply Kd.R_drewN | apply Kd.R_drew)); exact HO_6.out⟩, ⟨by (try simp only [hl8_1]); (try simp only [hl8_2]); (with_reducible repeat (first | apply Kd.R_alloc | apply Kd.R_drewN | apply Kd.R_drew)); exact HO_7.out⟩, ⟨by (try simp only [hl8_1]); (try simp only [hl8_2]); (with_reducible repeat (first | apply Kd.R_alloc | apply Kd.R_drewN | apply Kd.R_drew)); exact HO_8.out⟩, ⟨bZ⟩⟩
        ·rw [if_neg c19] at H
         have c19b0 : decide (x9_1 < (x6_1.length : Int)) = false := decide_eq_false c19
         clear c19
         simp only [Option.some.injEq, Prod.mk.injEq] at H
         obtain ⟨rfl, rfl⟩ := H
         obtain ⟨Ao123, co123, eo123⟩ := Kd.R_slice HO_6.out
         subst eo123
         iterate 5 (go_wp2; try go_quiet (fail))
         go_ret2
         exact ⟨_, _, eZ, Kd.rZ HO_6.out, Kd.rZ HO_7.out, bZ⟩
     ·rw [if_neg c7] at H
      exact absurd H (by simp)
    ·rw [if_neg c6] at H
     exact absurd H (by simp)
   ·rw [if_neg c5] at H
    exact absurd H (by simp)
  ·rw [if_neg c4] at H
   exact absurd H (by simp)
 ·rw [if_neg c3] at H
  exact absurd H (by simp)
end Go.Proofs.Ythnhchpgpnaamaa.XG
end
