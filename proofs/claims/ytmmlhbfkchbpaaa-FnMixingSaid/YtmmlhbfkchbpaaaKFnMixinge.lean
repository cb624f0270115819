/- The law FnMixing: part 4 of its texts, joined (wip/pack.py). -/
import Derived.Test.YtmmlhbfkchbpaaaKFnMixinga
import Derived.Test.YtmmlhbfkchbpaaaKFnMixingb
import Derived.Test.YtmmlhbfkchbpaaaKFnMixingc
import Derived.Test.YtmmlhbfkchbpaaaKFnMixingd

section
namespace Go.Proofs.Ytmmlhbfkchbpaaa.XX
open Go.RowKit Go.Proofs.YtmmlhbfkchbpaaaW.PrintWords Go.Proofs.YtmmlhbfkchbpaaaW.PrintLast Go.Proofs.YtmmlhbfkchbpaaaW.PrintMore
attribute [local go_sem] run_eql_slice_nil binOp_string_gtr' binOp_string_leq' binOp_string_geq' max2_int min2_int max_two min_two max_three min_three max_four min_four   -- for this text's walks alone
set_option linter.unusedVariables false
set_option linter.unusedSimpArgs false
mutual
def impl_MixWaves.j0 : Nat → List (List (S49)) → List Int → Bool → Option ((List (S49)) × Int)
 | 0, _, _, _ => none
 | k + 1, x0, x1, x24 => if x24 = true then (some (([] : List (S49)), 7)) else ((impl_sumOf.f k x1).bind fun t218 => (if t218 = 0 then (some (([] : List (S49)), 6)) else (impl_MixWaves.l0 k x0 x1 ([] : List Int) x0 (x0.length : Int) 0)))
def impl_MixWaves.l0 : Nat → List (List (S49)) → List Int → List Int → List (List (S49)) → Int → Int → Option ((List (S49)) × Int)
 | 0, _, _, _, _, _, _ => none
 | k + 1, x0, x1, x6, x39, x40, x41 => if x41 < x40 then (if 0 ≤ x41 then (if x41 < (x39.length : Int) then (impl_MixWaves.l1 k x0 x1 x6 x39 x40 x41 (rd_L3 x39 x41) ((rd_L3 x39 x41).length : Int) 0) else (none)) else (none)) else ((slices_Sort_int64S.f x6).bind fun t225 => ((slices_Compact_int64S.f k t225).bind fun t226 => (impl_MixWaves.l2 k x0 x1 ([] : List (S49)) t226 (t226.length : Int) 0)))
def impl_MixWaves.l1 : Nat → List (List (S49)) → List Int → List Int → List (List (S49)) → Int → Int → List (S49) → Int → Int → Option ((List (S49)) × Int)
 | 0, _, _, _, _, _, _, _, _, _ => none
 | k + 1, x0, x1, x6, x39, x40, x41, x45, x46, x47 => if x47 < x46 then (if 0 ≤ x47 then (if x47 < (x45.length : Int) then (if x6.length < 17592186044416 then (impl_MixWaves.l1 k x0 x1 (x6 ++ [(rd_T49 x45 x47).f0]) x39 x40 x41 x45 x46 (wrap64 (x47 + 1))) else (none)) else (none)) else (none)) else (impl_MixWaves.l0 k x0 x1 x6 x39 x40 (wrap64 (x41 + 1)))
def impl_MixWaves.l2 : Nat → List (List (S49)) → List Int → List (S49) → List Int → Int → Int → Option ((List (S49)) × Int)
 | 0, _, _, _, _, _, _ => none
 | k + 1, x0, x1, x11, x61, x62, x63 => if x63 < x62 then (if 0 ≤ x63 then (if x63 < (x61.length : Int) then (impl_MixWaves.l3 k x0 x1 x11 (rd x61 x63) 0 x61 x62 x63 x0 (x0.length : Int) 0) else (none)) else (none)) else ((impl_trimmedWave.f k x11).bind fun bt229 => (some (bt229.1, bt229.2)))
def impl_MixWaves.l3 : Nat → List (List (S49)) → List Int → List (S49) → Int → Int → List Int → Int → Int → List (List (S49)) → Int → Int → Option ((List (S49)) × Int)
 | 0, _, _, _, _, _, _, _, _, _, _, _ => none
 | k + 1, x0, x1, x11, x13, x14, x61, x62, x63, x67, x68, x69 => if x69 < x68 then (if 0 ≤ x69 then (if x69 < (x67.length : Int) then (if x69 < (x1.length : Int) then ((impl_waveAt.f k (rd_L3 x67 x69) x13).bind fun t236 => (impl_MixWaves.l3 k x0 x1 x11 x13 (wrap64 (x14 + (wrap64 ((rd x1 x69) * t236)))) x61 x62 x63 x67 x68 (wrap64 (x69 + 1)))) else (none)) else (none)) else (none)) else ((impl_sumOf.f k x1).bind fun t237 => ((impl_divRound.f x14 t237).bind fun t238 => (if x11.length < 8796093022208 then (impl_MixWaves.l2 k x0 x1 (x11 ++ [(⟨x13, t238⟩ : S49)]) x61 x62 (wrap64 (x63 + 1))) else (none))))
end
def impl_MixWaves.f (k : Nat) (l0 : List (List (S49))) (l1 : List Int) : Option ((List (S49)) × Int) := (slices_ContainsFunc_StepSS.f k l0).bind fun t216 => (if t216 = true then (some (([] : List (S49)), 1)) else ((impl_allWithin.f l1 0 100000).bind fun t217 => (if t217 = true then (if (l0.length : Int) = (l1.length : Int) then (impl_MixWaves.j0 k l0 l1 (decide ((l0.length : Int) > 16))) else (impl_MixWaves.j0 k l0 l1 true)) else (some (([] : List (S49)), 2)))))
def impl_MixWaves.T28 : Bool × List (List Nat × List Nat) := (true, [([], []), ([], []), ([], []), ([1, 2], [1, 2]), ([3], [3]), ([], []), ([], []), ([5, 6], [5, 6]), ([4, 7], [4, 7]), ([0, 8], [0, 8]), ([9, 7, 0, 1, 2, 3, 4, 5, 6, 7, 8, 9], [0, 9])])
def impl_MixWaves.B28 : List Nat := [0, 0, 0, 6, 14, 0, 0, 96, 254, 511, 1023]
theorem impl_MixWaves.tab28 : rtab .any (opsOf Try.f7 28) = impl_MixWaves.T28 := by kernel_rfl
theorem impl_MixWaves.bits28 : waitsOk impl_MixWaves.T28.2 impl_MixWaves.B28 = true := by kernel_rfl
set_option maxHeartbeats 8000000 in
set_option maxRecDepth 100000 in
theorem impl_MixWaves.calls (k : Nat) (A0 : Option Addr) (c0 : Nat) (l0 : List (List (S49))) (A1 : Option Addr) (c1 : Nat) (l1 : List Int) (r1 : List (S49)) (r2 : Int) (w : World) (hr0 : Kd.C (Kd.slice 49 k49) w A0 l0.length l0) (hc0 : l0.length ≤ c0) (hr1 : Kd.C (Kd.int .i64) w A1 l1.length l1) (hc1 : l1.length ≤ c1) (h : impl_MixWaves.f k l0 l1 = some (r1, r2)) :
  Calls Try.prog 7 #[.slice A0 l0.length c0, .slice A1 l1.length c1] w fun e w' => ∃ v0_ : Value, e = .returned (.tuple #[v0_, .int .i64 r2]) ∧ Kd.R k49 49 w' w.heap.size (fun _ => True) v0_ r1 ∧ Below w.heap.size w w' := by
 have hu49 := Try.underlying49
 have HR0 := Aside0.mk hr0
 have HC0 := Aside0.mk hc0
 clear hr0 hc0
 have HR1 := Aside0.mk hr1
 have HC1 := Aside0.mk hc1
 clear hr1 hc1
 have HB := Aside0.mk (Below.refl w.heap.size w)
 have H : ((slices_ContainsFunc_StepSS.f k l0).bind fun t216 => (if t216 = true then (some (([] : List (S49)), 1)) else ((impl_allWithin.f l1 0 100000).bind fun t217 => (if t217 = true then (if (l0.length : Int) = (l1.length : Int) then (impl_MixWaves.j0 k l0 l1 (decide ((l0.length : Int) > 16))) else (impl_MixWaves.j0 k l0 l1 true)) else (some (([] : List (S49)), 2)))))) = some (r1, r2) := h
 clear h
 replace H := Option.bind_eq_some_iff.mp H
 obtain ⟨t216, A30, H⟩ := H
 replace H : (if t216 = true then (some (([] : List (S49)), 1)) else ((impl_allWithin.f l1 0 100000).bind fun t217 => (if t217 = true then (if (l0.length : Int) = (l1.length : Int) then (impl_MixWaves.j0 k l0 l1 (decide ((l0.length : Int) > 16))) else (impl_MixWaves.j0 k l0 l1 true)) else (some (([] : List (S49)), 2))))) = some (r1, r2) := H
 have A3 := Aside0.mk A30
 clear A30
 by_cases c4 : t216 = true
 ·subst c4
  have H1 : (some (([] : List (S49)), 1)) = some (r1, r2) := by rw [if_pos rfl] at H; exact H
  clear H
  have H := H1
  clear H1
  simp only [Option.some.injEq, Prod.mk.injEq] at H
  obtain ⟨rfl, rfl⟩ := H
  go_enter Try.func7, Try.ntmps7
  go_wp2_with (first | ((with_reducible refine gate_callee (f := 20) rfl ?_); refine goesL_ (some 19) rfl rfl Try.func20 (by kernel_rfl) rfl #[.slice A0 l0.length c0, .func (.func 21) #[] #[]] rfl gZ ?_; (with_reducible refine (slices_ContainsFunc_StepSS.calls k _ _ l0  true _ ?side1 ?side2 A3.out).mono ?_); (case side1 => repeat (first | exact HR0.out | (with_reducible refine Kd.C_alloc ?_ _) | (with_reducible refine Kd.C_drewN ?_ _) | (with_reducible refine Kd.C_drew ?_))); (case side2 => exact HC0.out); rintro e w5 ⟨rfl, hb⟩; refine ⟨_, rfl, ?_⟩; have n0_ := Aside0.mk (below_step bZ hb); clear HB; have HB := n0_; clear n0_; (try clear hb); (try clear hb2); (try clear hk); (try clear hi)))
  go_ret2
  exact ⟨_, eZ, by first | exact Kd.R_nil _ _ _ _ _ | exact Kd.N_nil _ _ _ _ _ | exact Kd.V_nil _ _ _ _ _ | exact Kd.Q_nil _ _ _ _ _ | exact Kd.S_nil _ _ _ _ _, bZ⟩
 ·replace c4 := Bool.eq_false_iff.mpr c4
  subst c4
  have H1 : ((impl_allWithin.f l1 0 100000).bind fun t217 => (if t217 = true then (if (l0.length : Int) = (l1.length : Int) then (impl_MixWaves.j0 k l0 l1 (decide ((l0.length : Int) > 16))) else (impl_MixWaves.j0 k l0 l1 true)) else (some (([] : List (S49)), 2)))) = some (r1, r2) := by rw [if_neg (show ¬ (false = true) by decide)] at H; exact H
  clear H
  have H := H1
  clear H1
  replace H := Option.bind_eq_some_iff.mp H
  obtain ⟨t217, A60, H⟩ := H
  replace H : (if t217 = true then (if (l0.length : Int) = (l1.length : Int) then (impl_MixWaves.j0 k l0 l1 (decide ((l0.length : Int) > 16))) else (impl_MixWaves.j0 k l0 l1 true)) else (some (([] : List (S49)), 2))) = some (r1, r2) := H
  have A6 := Aside0.mk A60
  clear A60
  by_cases c7 : t217 = true
  ·subst c7
   have H1 : (if (l0.length : Int) = (l1.length : Int) then (impl_MixWaves.j0 k l0 l1 (decide ((l0.length : Int) > 16))) else (impl_MixWaves.j0 k l0 l1 true)) = some (r1, r2) := by rw [if_pos rfl] at H; exact H
   clear H
   have H := H1
   clear H1
   have HC8 := Aside0.mk H
   clear H
   go_enter Try.func7, Try.ntmps7
   go_upto_region 5 with (first | ((with_reducible refine gate_callee (f := 20) rfl ?_); refine goesL_ (some 19) rfl rfl Try.func20 (by kernel_rfl) rfl #[.slice A0 l0.length c0, .func (.func 21) #[] #[]] rfl gZ ?_; (with_reducible refine (slices_ContainsFunc_StepSS.calls k _ _ l0  false _ ?side1 ?side2 A3.out).mono ?_); (case side1 => repeat (first | exact HR0.out | (with_reducible refine Kd.C_alloc ?_ _) | (with_reducible refine Kd.C_drewN ?_ _) | (with_reducible refine Kd.C_drew ?_))); (case side2 => exact HC0.out); rintro e w9 ⟨rfl, hb⟩; refine ⟨_, rfl, ?_⟩; have n0_ := Aside0.mk (below_step bZ hb); clear HB; have HB := n0_; clear n0_; (try clear hb); (try clear hb2); (try clear hk); (try clear hi)) | ((with_reducible refine gate_callee (f := 23) rfl ?_); refine goesL_ (some 22) rfl rfl Try.func23 (by kernel_rfl) rfl #[.slice A1 l1.length c1, .int .i64 0, .int .i64 100000] rfl gZ ?_; (with_reducible refine (impl_allWithin.calls _ _ l1 0 100000 true _ ?side1 ?side2 A6.out).mono ?_); (case side1 => repeat (first | exact (Kd.C_below HR1.out HB.out) | (with_reducible refine Kd.C_alloc ?_ _) | (with_reducible refine Kd.C_drewN ?_ _) | (with_reducible refine Kd.C_drew ?_))); (case side2 => exact HC1.out); rintro e w10 ⟨rfl, hb⟩; refine ⟨_, rfl, ?_⟩; have n0_ := Aside0.mk (below_step bZ hb); clear HB; have HB := n0_; clear n0_; (try clear hb); (try clear hb2); (try clear hk); (try clear hi)))
   (try simp only [Act.put, List.setIfInBounds_toArray, List.set_cons_zero, List.set_cons_succ])
   go_cut [24] (fun v24 wc => ∃ (kq : Nat) (x24_7 : Bool), v24 = .bool x24_7 ∧ Aside0 (impl_MixWaves.j0 kq l0 l1 x24_7 = some (r1, r2)) ∧ Aside0 (kq ≤ k) ∧ Aside0 (Below w.heap.size w wc))
   case first =>
    have H := HC8.out
    clear HC8
    by_cases c11 : (l0.length : Int) = (l1.length : Int)
    ·rw [if_pos c11] at H
     have c11b0 : ((l0.length : Int) == (l1.length : Int)) = true := beq_iff_eq.mpr c11
     have c11b1 : ((l0.length : Int) != (l1.length : Int)) = false := bne_eq_false_iff_eq.mpr c11
     have c11b2 : (l0.length == l1.length) = true := by first | simpa using c11 | (simp at c11 ⊢; omega)
     clear c11
     (first | rw [c11b0] | (simp only [i64_w, i32_w]; rw [c11b0]) | skip)
     have H' := Aside0.mk H
     clear H
     go_wp2
     go_meet
     case rel => exact ⟨_, (decide ((l0.length : Int) > 16)), sZ, H', ⟨by first | omega | exact Nat.le_refl _⟩, ⟨bZ⟩⟩
    ·rw [if_neg c11] at H
     have c11b0 : ((l0.length : Int) == (l1.length : Int)) = false := beq_eq_false_iff_ne.mpr c11
     have c11b1 : ((l0.length : Int) != (l1.length : Int)) = true := bne_iff_ne.mpr c11
     have c11b2 : (l0.length == l1.length) = false := by first | simpa using c11 | (simp at c11 ⊢; omega)
     (first | rw [c11b0] | (simp only [i64_w, i32_w]; rw [c11b0]) | skip)
     have H' := Aside0.mk H
     clear H
     go_wp2
     go_meet
     case rel => exact ⟨_, (true), sZ, H', ⟨by first | omega | exact Nat.le_refl _⟩, ⟨bZ⟩⟩
   case rest =>
    clear HC8; (try clear c1); (try clear c2); (try clear p2); (try clear c4); (try clear c7); (try clear c11); (try clear c11b0); (try clear c11b1); (try clear c11b2)
    obtain ⟨kq, x24_7, rfl, HA, HJ7, HB⟩ := hcut
    cases kq with
    | zero => exact absurd HA.out (by simp [impl_MixWaves.j0])
    | succ kj7 =>
     have H := HA.out
     clear HA
     simp only [impl_MixWaves.j0] at H
     by_cases c12 : x24_7 = true
     ·subst c12
      have H1 : (some (([] : List (S49)), 7)) = some (r1, r2) := by rw [if_pos rfl] at H; exact H
      clear H
      have H := H1
      clear H1
      simp only [Option.some.injEq, Prod.mk.injEq] at H
      obtain ⟨rfl, rfl⟩ := H
      go_wp2
      go_ret2
      exact ⟨_, eZ, by first | exact Kd.R_nil _ _ _ _ _ | exact Kd.N_nil _ _ _ _ _ | exact Kd.V_nil _ _ _ _ _ | exact Kd.Q_nil _ _ _ _ _ | exact Kd.S_nil _ _ _ _ _, bZ⟩
     ·replace c12 := Bool.eq_false_iff.mpr c12
      subst c12
      have H1 : ((impl_sumOf.f kj7 l1).bind fun t218 => (if t218 = 0 then (some (([] : List (S49)), 6)) else (impl_MixWaves.l0 kj7 l0 l1 ([] : List Int) l0 (l0.length : Int) 0))) = some (r1, r2) := by rw [if_neg (show ¬ (false = true) by decide)] at H; exact H
      clear H
      have H := H1
      clear H1
      replace H := Option.bind_eq_some_iff.mp H
      obtain ⟨t218, A130, H⟩ := H
      replace H : (if t218 = 0 then (some (([] : List (S49)), 6)) else (impl_MixWaves.l0 kj7 l0 l1 ([] : List Int) l0 (l0.length : Int) 0)) = some (r1, r2) := H
      have A13 := Aside0.mk A130
      clear A130
      by_cases c14 : t218 = 0
      ·rw [if_pos c14] at H
       have c14b0 : (t218 == 0) = true := beq_iff_eq.mpr c14
       have c14b1 : (t218 != 0) = false := bne_eq_false_iff_eq.mpr c14
       clear c14
       simp only [Option.some.injEq, Prod.mk.injEq] at H
       obtain ⟨rfl, rfl⟩ := H
       go_wp2_with (first | ((with_reducible refine gate_callee (f := 24) rfl ?_); refine goesL_ (some 37) rfl rfl Try.func24 (by kernel_rfl) rfl #[.slice A1 l1.length c1] rfl gZ ?_; (with_reducible refine (impl_sumOf.calls kj7 _ _ l1 t218 _ ?side1 ?side2 A13.out).mono ?_); (case side1 => repeat (first | exact (Kd.C_below HR1.out HB.out) | (with_reducible refine Kd.C_alloc ?_ _) | (with_reducible refine Kd.C_drewN ?_ _) | (with_reducible refine Kd.C_drew ?_))); (case side2 => exact HC1.out); rintro e w' ⟨rfl, ⟨nd, rfl⟩⟩; refine ⟨_, rfl, ?_⟩))
       go_ret2
       exact ⟨_, eZ, by first | exact Kd.R_nil _ _ _ _ _ | exact Kd.N_nil _ _ _ _ _ | exact Kd.V_nil _ _ _ _ _ | exact Kd.Q_nil _ _ _ _ _ | exact Kd.S_nil _ _ _ _ _, bZ⟩
      ·rw [if_neg c14] at H
       have c14b0 : (t218 == 0) = false := beq_eq_false_iff_ne.mpr c14
       have c14b1 : (t218 != 0) = true := bne_iff_ne.mpr c14
       have H' := Aside0.mk H
       clear H
       go_wp2_with (first | ((with_reducible refine gate_callee (f := 24) rfl ?_); refine goesL_ (some 37) rfl rfl Try.func24 (by kernel_rfl) rfl #[.slice A1 l1.length c1] rfl gZ ?_; (with_reducible refine (impl_sumOf.calls kj7 _ _ l1 t218 _ ?side1 ?side2 A13.out).mono ?_); (case side1 => repeat (first | exact (Kd.C_below HR1.out HB.out) | (with_reducible refine Kd.C_alloc ?_ _) | (with_reducible refine Kd.C_drewN ?_ _) | (with_reducible refine Kd.C_drew ?_))); (case side2 => exact HC1.out); rintro e w' ⟨rfl, ⟨nd, rfl⟩⟩; refine ⟨_, rfl, ?_⟩))
       go_loopg [6, 41] kj7 (fun kq v6 v41 w' => ∃ (x6_2 : List Int) (x41_2 : Int), v41 = .int .i64 x41_2 ∧ Aside0 (impl_MixWaves.l0 kq l0 l1 x6_2 l0 (l0.length : Int) x41_2 = some (r1, r2)) ∧ Aside0 (kq ≤ kj7) ∧ Aside0 (Kd.R (Kd.int .i64) 2 w' w.heap.size (fun _ => True) v6 x6_2) ∧ Aside0 (Below w.heap.size w w'))
       case atStart => exact ⟨(([] : List Int)), (0), sZ, H', ⟨Nat.le_refl _⟩, ⟨by first | exact Kd.R_nil _ _ _ _ _ | exact Kd.N_nil _ _ _ _ _ | exact Kd.V_nil _ _ _ _ _ | exact Kd.Q_nil _ _ _ _ _ | exact Kd.S_nil _ _ _ _ _⟩, ⟨bZ⟩⟩
       case round =>
        clear H'; (try clear c1); (try clear c2); (try clear p2); (try clear c4); (try clear c7); (try clear c11); (try clear c11b0); (try clear c11b1); (try clear c11b2); (try clear c12); (try clear c14); (try clear c14b0); (try clear c14b1); (try clear p2)
        obtain ⟨x6_2, x41_2, rfl, HA, HK2, HO_6, HB⟩ := hrel
        cases gk with
        | zero => exact absurd HA.out (by simp [impl_MixWaves.l0])
        | succ k2 =>
         have H := HA.out
         clear HA
         simp only [impl_MixWaves.l0] at H
         by_cases c15 : x41_2 < (l0.length : Int)
         ·rw [if_pos c15] at H
          have c15b0 : decide (x41_2 < (l0.length : Int)) = true := decide_eq_true c15
          clear c15
          by_cases c16 : 0 ≤ x41_2
          ·rw [if_pos c16] at H
           have c16b0 : decide (0 ≤ x41_2) = true := decide_eq_true c16
           clear c16
           by_cases c17 : x41_2 < (l0.length : Int)
           ·rw [if_pos c17] at H
            have c17b0 : decide (x41_2 < (l0.length : Int)) = true := decide_eq_true c17
            clear c17
            have H' := Aside0.mk H
            clear H
            have p219 : 0 ≤ (x41_2 : Int) := oZ
            have q219 : x41_2 < (l0.length : Int) := oZ
            obtain ⟨ad219, A219_0, c219_0, e219, hx219_0, hl219_0, hi219_0⟩ := at_L3 HR0.out x41_2 p219 q219
            cases e219
            replace hx219_0 := (HB.out.cell (World.block_lt_of_cell? w _ hx219_0)).trans hx219_0
            have HR219_0 := Aside0.mk hi219_0
            have HC219_0 := Aside0.mk hl219_0
            clear hi219_0 hl219_0
            replace p219 := eq_true p219
            replace q219 := eq_true q219
            go_wp2
            go_loopg [6, 47] k2 (fun kq v6 v47 w' => ∃ (x6_3 : List Int) (x47_3 : Int), v47 = .int .i64 x47_3 ∧ Aside0 (impl_MixWaves.l1 kq l0 l1 x6_3 l0 (l0.length : Int) x41_2 (rd_L3 l0 x41_2) ((rd_L3 l0 x41_2).length : Int) x47_3 = some (r1, r2)) ∧ Aside0 (kq ≤ k2) ∧ Aside0 (Kd.R (Kd.int .i64) 2 w' w.heap.size (fun _ => True) v6 x6_3) ∧ Aside0 (Below w.heap.size w w'))
            case atStart => exact ⟨(x6_2), (0), sZ, H', ⟨Nat.le_refl _⟩, ⟨Kd.rZ HO_6.out⟩, ⟨bZ⟩⟩
            case round =>
             clear H'; (try clear c1); (try clear c2); (try clear p2); (try clear q2); (try clear hx2); (try clear c4); (try clear c7); (try clear c11); (try clear c11b0); (try clear c11b1); (try clear c11b2); (try clear c12); (try clear c14); (try clear c14b0); (try clear c14b1); (try clear c15); (try clear c15b0); (try clear c16); (try clear c16b0); (try clear c17); (try clear c17b0); (try clear hx219_0); (try clear p2); (try clear p219); (try clear q219)
             obtain ⟨x6_3, x47_3, rfl, HA, HK3, HO_6, HB⟩ := hrel
             cases gk with
             | zero => exact absurd HA.out (by simp [impl_MixWaves.l1])
             | succ k3 =>
              have H := HA.out
              clear HA
              simp only [impl_MixWaves.l1] at H
              by_cases c18 : x47_3 < ((rd_L3 l0 x41_2).length : Int)
              ·rw [if_pos c18] at H
               have c18b0 : decide (x47_3 < ((rd_L3 l0 x41_2).length : Int)) = true := decide_eq_true c18
               clear c18
               by_cases c19 : 0 ≤ x47_3
               ·rw [if_pos c19] at H
                have c19b0 : decide (0 ≤ x47_3) = true := decide_eq_true c19
                clear c19
                by_cases c20 : x47_3 < ((rd_L3 l0 x41_2).length : Int)
                ·rw [if_pos c20] at H
                 have c20b0 : decide (x47_3 < ((rd_L3 l0 x41_2).length : Int)) = true := decide_eq_true c20
                 clear c20
                 by_cases c21 : x6_3.length < 17592186044416
                 ·rw [if_pos c21] at H
                  have LMc21 := Aside0.mk c21
                  clear c21
                  obtain ⟨y222, hy222⟩ : ∃ y_ : List Int, y_ = (x6_3 ++ [(rd_T49 (rd_L3 l0 x41_2) x47_3).f0]) := ⟨_, rfl⟩
                  replace H : (impl_MixWaves.l1 k3 l0 l1 y222 l0 (l0.length : Int) x41_2 (rd_L3 l0 x41_2) ((rd_L3 l0 x41_2).length : Int) (wrap64 (x47_3 + 1))) = some (r1, r2) := by first | (rw [hy222]; with_reducible exact H) | (have H2_ := (Option.bind_some _ _).symm.trans H; rw [hy222]; with_reducible exact H2_) | (have H2_ := (Option.bind_some _ _).symm.trans H; with_reducible exact H2_) | with_reducible exact H | (rw [hy222]; exact H) | exact H
                  have Ny222 := Aside0.mk hy222
                  clear hy222
                  have H' := Aside0.mk H
                  clear H
                  have p220 : 0 ≤ (x47_3 : Int) := oZ
                  have q220 : x47_3 < ((rd_L3 l0 x41_2).length : Int) := oZ
                  obtain ⟨ad220, e220, hx220_0, hx220_1⟩ := at_T49 HR219_0.out x47_3 p220 q220
                  cases e220
                  replace hx220_0 := (HB.out.cell (World.block_lt_of_cell? w _ hx220_0)).trans hx220_0
                  replace hx220_1 := (HB.out.cell (World.block_lt_of_cell? w _ hx220_1)).trans hx220_1
                  replace p220 := eq_true p220
                  replace q220 := eq_true q220
                  go_wp2_with (first | ((with_reducible refine gate_dst (N := 10) rfl ?_); (try (refine gate_guard (by rfl) ?_; dsimp only)); refine boxZ 10 #[.int .i64 0, .int .i64 0] 49 rfl rfl ?_; intro gb221 hg w22 hbox hb; have n0_ := Aside0.mk (Kd.R_below (Kd.rZ HO_6.out) hb); have n1_ := Aside0.mk (below_step bZ hb); have n2_ := Aside0.mk (hbox); have n3_ := Aside0.mk ((by rw [hg]; exact bsZ : w.heap.size ≤ gb221)); have n4_ := Aside0.mk ((by rw [hg]; exact bsZ : w.heap.size ≤ gb221)); clear HO_6; clear HB; have HO_6 := n0_; have HB := n1_; have BK221 := n2_; have GW221 := n3_; have GE221 := n4_; clear n0_ n1_ n2_ n3_ n4_; clear hb hbox hg; have hcz23_0 := bc0 BK221.out; have hcz23_1 := bc1 BK221.out; have hfz23_0 := blk_frozen BK221.out 0; have hfz23_1 := blk_frozen BK221.out 1) | ((with_reducible refine gate_builtin (b := .append) (xs := #[.tmp 51, .tmp 54]) rfl ?_); (try (refine gate_guard (by rfl) ?_; dsimp only)); at_builtin; refine Kd.R_append (Kd.int .i64) (w0 := w) w.heap.size rfl (.tmp 51) (.tmp 54) 30 2 (.int .i64 0) 8 rfl Try.underlying30 info2 rfl (by decide) (by omega) u6 x6_3 ((rd_T49 (rd_L3 l0 x41_2) x47_3).f0) [.int .i64 ((rd_T49 (rd_L3 l0 x41_2) x47_3).f0)] (fun _ => True) (fun _ => False) rfl (by first | (go_simp; done) | (go_simp; rfl)) ?aP (fun _ hk => hk.elim) ?aF ?aO ?aB ?aS ?aL ?_; (case aP => exact rfl); (case aB => exact bZ); (case aF => exact (fun _ _ => trivial)); (case aO => exact (Kd.rZ (Kd.R_mono (Kd.R_far (p := ⟨gb221, 1, none⟩) (Kd.R_far (p := ⟨gb221, 0, none⟩) (Kd.R_types HO_6.out BK221.out (by decide)) (fun _ hk => hk.2) (.int .i64 ((rd_T49 (rd_L3 l0 x41_2) x47_3).f0))) (fun _ hk => hk.2) (.int .i64 ((rd_T49 (rd_L3 l0 x41_2) x47_3).f1))) (fun _ hk => trivial)))); (case aS => exact bsZ); (case aL => have := LMc21.out; omega); intro v223 w24 ho hb hg hat; rw [← Ny222.out] at ho; have n0_ := Aside0.mk (blk_grown (g := gb221) (o := .cells #[.int .i64 ((rd_T49 (rd_L3 l0 x41_2) x47_3).f0), .int .i64 ((rd_T49 (rd_L3 l0 x41_2) x47_3).f1)] 49 (0, 0)) (by (with_reducible repeat (first | refine blk_drewN ?_ _ | refine blk_drew ?_ | refine blk_alloc ?_ _)); refine blk_put (cs := #[.int .i64 ((rd_T49 (rd_L3 l0 x41_2) x47_3).f0), .int .i64 0]) ?_ 1 _ rfl; (with_reducible repeat (first | refine blk_drewN ?_ _ | refine blk_drew ?_ | refine blk_alloc ?_ _)); refine blk_put (cs := #[.int .i64 0, .int .i64 0]) ?_ 0 _ rfl; (with_reducible repeat (first | refine blk_drewN ?_ _ | refine blk_drew ?_ | refine blk_alloc ?_ _)); exact BK221.out) hg (Kd.R_ne HO_6.out BK221.out (by decide))); have n1_ := Aside0.mk (hb); have n2_ := Aside0.mk (ho); clear BK221; clear HB; clear HO_6; have BK221 := n0_; have HB := n1_; have HO224 := n2_; clear n0_ n1_ n2_; clear ho hb hg hat))
                  go_roundg k3
                  case measure => have := HJ7.out; have := HK2.out; have := HK3.out; omega
                  case rel => exact ⟨(y222), (wrap64 (x47_3 + 1)), sZ, H', ⟨by have := HJ7.out; have := HK2.out; have := HK3.out; omega⟩, ⟨Kd.rZ HO224.out⟩, ⟨bZ⟩⟩
                 ·rw [if_neg c21] at H
                  exact absurd H (by simp)
                ·rw [if_neg c20] at H
                 exact absurd H (by simp)
               ·rw [if_neg c19] at H
                exact absurd H (by simp)
              ·rw [if_neg c18] at H
               have c18b0 : decide (x47_3 < ((rd_L3 l0 x41_2).length : Int)) = false := decide_eq_false c18
               clear c18
               have H' := Aside0.mk H
               clear H
               go_wp2
               go_roundg k3
               case measure => have := HJ7.out; have := HK2.out; have := HK3.out; omega
               case rel => exact ⟨(x6_3), (wrap64 (x41_2 + 1)), sZ, H', ⟨by have := HJ7.out; have := HK2.out; have := HK3.out; omega⟩, ⟨Kd.rZ HO_6.out⟩, ⟨bZ⟩⟩
           ·rw [if_neg c17] at H
            exact absurd H (by simp)
          ·rw [if_neg c16] at H
           exact absurd H (by simp)
         ·rw [if_neg c15] at H
          have c15b0 : decide (x41_2 < (l0.length : Int)) = false := decide_eq_false c15
          clear c15
          replace H := Option.bind_eq_some_iff.mp H
          obtain ⟨t225, A250, H⟩ := H
          replace H : ((slices_Compact_int64S.f k2 t225).bind fun t226 => (impl_MixWaves.l2 k2 l0 l1 ([] : List (S49)) t226 (t226.length : Int) 0)) = some (r1, r2) := H
          have A25 := Aside0.mk A250
          clear A250
          replace H := Option.bind_eq_some_iff.mp H
          obtain ⟨t226, A260, H⟩ := H
          replace H : (impl_MixWaves.l2 k2 l0 l1 ([] : List (S49)) t226 (t226.length : Int) 0) = some (r1, r2) := H
          have A26 := Aside0.mk A260
          clear A260
          have H' := Aside0.mk H
          clear H
          obtain ⟨Ao27, co27, eo27⟩ := Kd.R_slice HO_6.out
          subst eo27
          go_wp2_with (first | ((with_reducible refine gate_callee (f := 25) rfl ?_); refine goesL_ (some 59) rfl rfl Try.func25 (by kernel_rfl) rfl #[.slice Ao27 x6_2.length co27] rfl gZ ?_; (with_reducible refine (slices_Sort_int64S.calls (fun k_ => some k_ = (.slice Ao27 x6_2.length co27 : Value).ownBlock) (.slice Ao27 x6_2.length co27) x6_2 t225 w _ ?side1 ?side2 A25.out).mono ?_); (case side1 => repeat (first | (with_reducible first | exact HB.out | apply below_alloc | apply pw_below_drewN | apply below_drew1) | exact HB.out)); (case side2 => exact Kd.R_tight rfl HO_6.out); rintro e w28 ⟨rfl, hy0, hb, hkp⟩; refine ⟨_, rfl, ?_⟩; have n0_ := Aside0.mk (Kd.R_reok rfl hy0 (fun k_ e_ => HO_6.out.1 k_ e_)); have n1_ := Aside0.mk (hb); clear HO_6; clear HB; have HO_6 := n0_; have HB := n1_; clear n0_ n1_; (try clear hb); (try clear hkp); (try clear hy0)) | ((with_reducible refine gate_callee (f := 26) rfl ?_); refine goesL_ (some 61) rfl rfl Try.func26 (by kernel_rfl) rfl #[.slice Ao27 x6_2.length co27] rfl gZ ?_; (with_reducible refine (slices_Compact_int64S.calls k2 (fun k_ => some k_ = (.slice Ao27 x6_2.length co27 : Value).ownBlock) (.slice Ao27 x6_2.length co27) t225 t226 w _ ?side1 ?side2 A26.out).mono ?_); (case side1 => repeat (first | (with_reducible first | exact HB.out | apply below_alloc | apply pw_below_drewN | apply below_drew1) | exact HB.out)); (case side2 => exact Kd.R_tight rfl HO_6.out); rintro e w29 ⟨v227, rfl, ho0, hb, hkp⟩; refine ⟨_, rfl, ?_⟩; have n0_ := Aside0.mk (Kd.R_mono (ok' := fun k_ => True) ho0 (fun k_ hk_ => trivial)); have n1_ := Aside0.mk (hb); clear HB; clear HO_6; have HO228 := n0_; have HB := n1_; clear n0_ n1_; (try clear hb); (try clear hkp); (try clear ho0); obtain ⟨Ao30, co30, eo30⟩ := Kd.R_slice HO228.out; subst eo30))
          go_loopg [11, 63] k2 (fun kq v11 v63 w' => ∃ (x11_3 : List (S49)) (x63_3 : Int), v63 = .int .i64 x63_3 ∧ Aside0 (impl_MixWaves.l2 kq l0 l1 x11_3 t226 (t226.length : Int) x63_3 = some (r1, r2)) ∧ Aside0 (kq ≤ k2) ∧ Aside0 (Kd.R k49 49 w' w.heap.size (fun _ => True) v11 x11_3) ∧ Aside0 (Kd.R (Kd.int .i64) 2 w' w.heap.size (fun _ => True) (.slice Ao30 t226.length co30) t226) ∧ Aside0 (Below w.heap.size w w'))
          case atStart => exact ⟨(([] : List (S49))), (0), sZ, H', ⟨Nat.le_refl _⟩, ⟨by first | exact Kd.R_nil _ _ _ _ _ | exact Kd.N_nil _ _ _ _ _ | exact Kd.V_nil _ _ _ _ _ | exact Kd.Q_nil _ _ _ _ _ | exact Kd.S_nil _ _ _ _ _⟩, ⟨Kd.rZ HO228.out⟩, ⟨bZ⟩⟩
          case round =>
           clear H'; (try clear c1); (try clear c2); (try clear p2); (try clear q2); (try clear hx2); (try clear c4); (try clear p6); (try clear c7); (try clear c11); (try clear c11b0); (try clear c11b1); (try clear c11b2); (try clear c12); (try clear c14); (try clear c14b0); (try clear c14b1); (try clear c15); (try clear c15b0); (try clear c16); (try clear c16b0); (try clear c17); (try clear c17b0); (try clear c18); (try clear c18b0); (try clear c19); (try clear c19b0); (try clear c20); (try clear c20b0); (try clear c21); (try clear p21); (try clear q21); (try clear hx21); (try clear p22); (try clear q22); (try clear hx22); (try clear c23); (try clear c24); (try clear c25); (try clear c26); (try clear hcz23_0); (try clear hcz23_1); (try clear hfz23_0); (try clear hfz23_1); (try clear hx219_0); (try clear hx220_0); (try clear hx220_1); (try clear p2); (try clear p219); (try clear p220); (try clear q2); (try clear q219); (try clear q220)
           obtain ⟨x11_3, x63_3, rfl, HA, HK3, HO_11, HO_61, HB⟩ := hrel
           cases gk with
           | zero => exact absurd HA.out (by simp [impl_MixWaves.l2])
           | succ k3 =>
            have H := HA.out
            clear HA
            simp only [impl_MixWaves.l2] at H
            by_cases c31 : x63_3 < (t226.length : Int)
            ·rw [if_pos c31] at H
             have c31b0 : decide (x63_3 < (t226.length : Int)) = true := decide_eq_true c31
             clear c31
             by_cases c32 : 0 ≤ x63_3
             ·rw [if_pos c32] at H
              have c32b0 : decide (0 ≤ x63_3) = true := decide_eq_true c32
              clear c32
              by_cases c33 : x63_3 < (t226.length : Int)
              ·rw [if_pos c33] at H
               have c33b0 : decide (x63_3 < (t226.length : Int)) = true := decide_eq_true c33
               clear c33
               have H' := Aside0.mk H
               clear H
               have p233 : 0 ≤ (x63_3 : Int) := oZ
               have q233 : x63_3 < (t226.length : Int) := oZ
               obtain ⟨ad233, e233, hx233_0⟩ := Kd.at_int (Kd.R_reads' HO_61.out).2.2 x63_3 p233 q233
               cases e233
               replace p233 := eq_true p233
               replace q233 := eq_true q233
               go_wp2
               go_loopg [14, 69] k3 (fun kq v14 v69 w' => ∃ (x14_4 : Int) (x69_4 : Int), v14 = .int .i64 x14_4 ∧ v69 = .int .i64 x69_4 ∧ Aside0 (impl_MixWaves.l3 kq l0 l1 x11_3 (rd t226 x63_3) x14_4 t226 (t226.length : Int) x63_3 l0 (l0.length : Int) x69_4 = some (r1, r2)) ∧ Aside0 (kq ≤ k3) ∧ Aside0 (Kd.R k49 49 w' w.heap.size (fun _ => True) u11 x11_3) ∧ Aside0 (Kd.R (Kd.int .i64) 2 w' w.heap.size (fun _ => True) (.slice (some ad233) t226.length co30) t226) ∧ Aside0 (Below w.heap.size w w'))
               case atStart => exact ⟨(0), (0), sZ, sZ, H', ⟨Nat.le_refl _⟩, ⟨Kd.rZ HO_11.out⟩, ⟨Kd.rZ HO_61.out⟩, ⟨bZ⟩⟩
               case round =>
                clear H'; (try clear c1); (try clear c2); (try clear p2); (try clear q2); (try clear hx2); (try clear c3); (try clear c4); (try clear p6); (try clear c7); (try clear c11); (try clear c11b0); (try clear c11b1); (try clear c11b2); (try clear c12); (try clear c14); (try clear c14b0); (try clear c14b1); (try clear c15); (try clear c15b0); (try clear c16); (try clear c16b0); (try clear c17); (try clear c17b0); (try clear c18); (try clear c18b0); (try clear c19); (try clear c19b0); (try clear c20); (try clear c20b0); (try clear c21); (try clear p21); (try clear q21); (try clear hx21); (try clear p22); (try clear q22); (try clear hx22); (try clear c23); (try clear p23); (try clear q23); (try clear hx23); (try clear c24); (try clear c25); (try clear c26); (try clear c31); (try clear c31b0); (try clear c32); (try clear c32b0); (try clear c33); (try clear c33b0); (try clear hcz23_0); (try clear hcz23_1); (try clear hfz23_0); (try clear hfz23_1); (try clear hx219_0); (try clear hx220_0); (try clear hx220_1); (try clear hx233_0); (try clear p2); (try clear p21); (try clear p219); (try clear p22); (try clear p220); (try clear p233); (try clear p6); (try clear q2); (try clear q21); (try clear q219); (try clear q22); (try clear q220); (try clear q233)
                obtain ⟨x14_4, x69_4, rfl, rfl, HA, HK4, HO_11, HO_61, HB⟩ := hrel
                cases gk with
                | zero => exact absurd HA.out (by simp [impl_MixWaves.l3])
                | succ k4 =>
                 have H := HA.out
                 clear HA
                 simp only [impl_MixWaves.l3] at H
                 by_cases c34 : x69_4 < (l0.length : Int)
                 ·rw [if_pos c34] at H
                  have c34b0 : decide (x69_4 < (l0.length : Int)) = true := decide_eq_true c34
                  clear c34
                  by_cases c35 : 0 ≤ x69_4
                  ·rw [if_pos c35] at H
                   have c35b0 : decide (0 ≤ x69_4) = true := decide_eq_true c35
                   clear c35
                   by_cases c36 : x69_4 < (l0.length : Int)
                   ·rw [if_pos c36] at H
                    have c36b0 : decide (x69_4 < (l0.length : Int)) = true := decide_eq_true c36
                    clear c36
                    by_cases c37 : x69_4 < (l1.length : Int)
                    ·rw [if_pos c37] at H
                     have c37b0 : decide (x69_4 < (l1.length : Int)) = true := decide_eq_true c37
                     clear c37
                     replace H := Option.bind_eq_some_iff.mp H
                     obtain ⟨t236, A380, H⟩ := H
                     replace H : (impl_MixWaves.l3 k4 l0 l1 x11_3 (rd t226 x63_3) (wrap64 (x14_4 + (wrap64 ((rd l1 x69_4) * t236)))) t226 (t226.length : Int) x63_3 l0 (l0.length : Int) (wrap64 (x69_4 + 1))) = some (r1, r2) := H
                     have A38 := Aside0.mk A380
                     clear A380
                     have H' := Aside0.mk H
                     clear H
                     have p234 : 0 ≤ (x69_4 : Int) := oZ
                     have q234 : x69_4 < (l0.length : Int) := oZ
                     obtain ⟨ad234, A234_0, c234_0, e234, hx234_0, hl234_0, hi234_0⟩ := at_L3 HR0.out x69_4 p234 q234
                     cases e234
                     replace hx234_0 := (HB.out.cell (World.block_lt_of_cell? w _ hx234_0)).trans hx234_0
                     have HR234_0 := Aside0.mk hi234_0
                     have HC234_0 := Aside0.mk hl234_0
                     clear hi234_0 hl234_0
                     replace p234 := eq_true p234
                     replace q234 := eq_true q234
                     try go_wp2
                     have n0_ := Aside0.mk (Kd.R_drew HO_11.out)
                     have n1_ := Aside0.mk (Kd.R_drew HO_61.out)
                     have n2_ := Aside0.mk (below_drew1 HB.out)
                     clear HO_11; clear HO_61; clear HB
                     have HO_11 := n0_
                     have HO_61 := n1_
                     have HB := n2_
                     clear n0_ n1_ n2_
                     have p235 : 0 ≤ (x69_4 : Int) := oZ
                     have q235 : x69_4 < (l1.length : Int) := oZ
                     obtain ⟨ad235, e235, hx235_0⟩ := Kd.at_int HR1.out x69_4 p235 q235
                     have hw235_0 := hx235_0
                     cases e235
                     replace hx235_0 := (HB.out.cell (World.block_lt_of_cell? w _ hx235_0)).trans hx235_0
                     replace p235 := eq_true p235
                     replace q235 := eq_true q235
                     refine start_ (n := 11) (S := fun w' => w'.cell? (ad235.add (x69_4).toNat) = some (.int .i64 (rd l1 x69_4))) (ds := []) #[false, false, false, false, false, false, false, false, false, false, false] (by kernel_rfl) rfl rfl (((HB.out.cell (World.block_lt_of_cell? w _ hw235_0)).trans hw235_0)) (fun hHeld => ?_); refine with_tabW impl_MixWaves.tab28 impl_MixWaves.bits28 (fun HT_ HW_ => ?_)
                     generalize wr.drew = w39 at HO_11 HO_61 HB hx235_0 hHeld ⊢
                     refine puZ 0 (some 74) #[true, false, false, false, false, false, false, false, false, false, false] rfl rfl HT_.out ?_
                     refine puZ 1 (some 75) #[true, true, false, false, false, false, false, false, false, false, false] rfl rfl HT_.out ?_
                     refine puZ 2 (some 76) #[true, true, true, false, false, false, false, false, false, false, false] rfl rfl HT_.out ?_
                     refine puZ 3 (some 77) #[true, true, true, true, false, false, false, false, false, false, false] rfl rfl HT_.out ?_
                     refine puZ 5 (some 79) #[true, true, true, true, false, true, false, false, false, false, false] rfl rfl HT_.out ?_
                     refine puZ 6 (some 80) #[true, true, true, true, false, true, true, false, false, false, false] rfl rfl HT_.out ?_
                     refine take_ (i := 4) (N := some 78) (v := ?_) (a' := ?_) #[true, true, true, true, true, true, true, false, false, false, false] rfl rfl (take_ofW HT_.out HW_.out (by kernel_rfl)) (fun _ _ _ h => h) (Or.inl ⟨by rfl, ?_⟩) hHeld ?_ ?_
                     rotate_left
                     ·intro w' s0
                      go_simp
                      with_reducible rfl
                     rotate_left
                     ·simp only [Act.put, List.setIfInBounds_toArray, List.set_cons_zero, List.set_cons_succ, i64_w, i32_w]
                      rfl
                     refine one_ (i := 7) (N := some 81) #[true, true, true, true, true, true, true, true, false, false, false] rfl rfl (one_of HT_.out (by kernel_rfl)) (by decide) (fun K hK => ?_)
                     refine goes_ Try.func27 (by kernel_rfl) rfl #[.slice A234_0 (rd_L3 l0 x69_4).length c234_0, .int .i64 (rd t226 x63_3)] (by rfl) rfl rfl gZ ?_
                     with_reducible refine (impl_waveAt.calls k4 _ _ (rd_L3 l0 x69_4) (rd t226 x63_3) t236 _ ?side1 ?side2 A38.out).mono ?_
                     (case side1 => repeat (first | exact (Kd.C_below HR234_0.out HB.out) | (with_reducible refine Kd.C_alloc ?_ _) | (with_reducible refine Kd.C_drewN ?_ _) | (with_reducible refine Kd.C_drew ?_)))
                     (case side2 => exact HC234_0.out)
                     rintro e w40 ⟨rfl, hb⟩
                     refine ⟨_, rfl, ?_⟩
                     have n0_ := Aside0.mk (Kd.R_below (Kd.rZ HO_11.out) hb)
                     have n1_ := Aside0.mk (Kd.R_below (Kd.rZ HO_61.out) hb)
                     have n2_ := Aside0.mk (below_step bZ hb)
                     clear HO_11; clear HO_61; clear HB
                     have HO_11 := n0_
                     have HO_61 := n1_
                     have HB := n2_
                     clear n0_ n1_ n2_
                     (try clear hb)
                     (try clear hb2)
                     (try clear hk)
                     (try clear hi)
                     refine hK.out _ _ (((HB.out.cell (World.block_lt_of_cell? w _ hw235_0)).trans hw235_0)) (fun hHeld => ?_)
                     clear hK K
                     refine norm_ (a' := ?_) ?_ ?_
                     rotate_left
                     ·show Act.put _ (some 81) _ = _
                      simp only [Act.put, List.setIfInBounds_toArray, List.set_cons_zero, List.set_cons_succ, i64_w, i32_w]
                      rfl
                     refine puZ 8 (some 82) #[true, true, true, true, true, true, true, true, true, false, false] rfl rfl HT_.out ?_
                     refine puZ 9 (some 83) #[true, true, true, true, true, true, true, true, true, true, false] rfl rfl HT_.out ?_
                     refine puZ 10 (some 14) #[true, true, true, true, true, true, true, true, true, true, true] rfl rfl HT_.out ?_
                     refine done_ (done_of HT_.out (by kernel_rfl)) ?_
                     try go_wp2
                     go_roundg k4
                     case measure => have := HJ7.out; have := HK2.out; have := HK3.out; have := HK4.out; omega
                     case rel => exact ⟨(wrap64 (x14_4 + (wrap64 ((rd l1 x69_4) * t236)))), (wrap64 (x69_4 + 1)), sZ, sZ, H', ⟨by have := HJ7.out; have := HK2.out; have := HK3.out; have := HK4.out; omega⟩, ⟨Kd.rZ HO_11.out⟩, ⟨Kd.rZ HO_61.out⟩, ⟨bZ⟩⟩
                    ·rw [if_neg c37] at H
                     exact absurd H (by simp)
                   ·rw [if_neg c36] at H
                    exact absurd H (by simp)
                  ·rw [if_neg c35] at H
                   exact absurd H (by simp)
                 ·rw [if_neg c34] at H
                  have c34b0 : decide (x69_4 < (l0.length : Int)) = false := decide_eq_false c34
                  clear c34
                  replace H := Option.bind_eq_some_iff.mp H
                  obtain ⟨t237, A410, H⟩ := H
                  replace H : ((impl_divRound.f x14_4 t237).bind fun t238 => (if x11_3.length < 8796093022208 then (impl_MixWaves.l2 k4 l0 l1 (x11_3 ++ [(⟨(rd t226 x63_3), t238⟩ : S49)]) t226 (t226.length : Int) (wrap64 (x63_3 + 1))) else (none))) = some (r1, r2) := H
                  have A41 := Aside0.mk A410
                  clear A410
                  replace H := Option.bind_eq_some_iff.mp H
                  obtain ⟨t238, A420, H⟩ := H
                  replace H : (if x11_3.length < 8796093022208 then (impl_MixWaves.l2 k4 l0 l1 (x11_3 ++ [(⟨(rd t226 x63_3), t238⟩ : S49)]) t226 (t226.length : Int) (wrap64 (x63_3 + 1))) else (none)) = some (r1, r2) := H
                  have A42 := Aside0.mk A420
                  clear A420
                  by_cases c43 : x11_3.length < 8796093022208
                  ·rw [if_pos c43] at H
                   have LMc43 := Aside0.mk c43
                   clear c43
                   obtain ⟨y239, hy239⟩ : ∃ y_ : List (S49), y_ = (x11_3 ++ [(⟨(rd t226 x63_3), t238⟩ : S49)]) := ⟨_, rfl⟩
                   replace H : (impl_MixWaves.l2 k4 l0 l1 y239 t226 (t226.length : Int) (wrap64 (x63_3 + 1))) = some (r1, r2) := by first | (rw [hy239]; with_reducible exact H) | (have H2_ := (Option.bind_some _ _).symm.trans H; rw [hy239]; with_reducible exact H2_) | (have H2_ := (Option.bind_some _ _).symm.trans H; with_reducible exact H2_) | with_reducible exact H | (rw [hy239]; exact H) | exact H
                   have Ny239 := Aside0.mk hy239
                   clear hy239
                   have H' := Aside0.mk H
                   clear H
                   go_wp2_with (first | ((with_reducible refine gate_callee (f := 24) rfl ?_); refine goesL_ (some 89) rfl rfl Try.func24 (by kernel_rfl) rfl #[.slice A1 l1.length c1] rfl gZ ?_; (with_reducible refine (impl_sumOf.calls k4 _ _ l1 t237 _ ?side1 ?side2 A41.out).mono ?_); (case side1 => repeat (first | exact (Kd.C_below HR1.out HB.out) | (with_reducible refine Kd.C_alloc ?_ _) | (with_reducible refine Kd.C_drewN ?_ _) | (with_reducible refine Kd.C_drew ?_))); (case side2 => exact HC1.out); rintro e w' ⟨rfl, ⟨nd, rfl⟩⟩; refine ⟨_, rfl, ?_⟩) | ((with_reducible refine gate_callee (f := 28) rfl ?_); refine goesL_ (some 90) rfl rfl Try.func28 (by kernel_rfl) rfl #[.int .i64 x14_4, .int .i64 t237] rfl gZ ?_; (with_reducible refine (impl_divRound.calls x14_4 t237 t238 _ A42.out).mono ?_); rintro e w44 ⟨rfl, hb⟩; refine ⟨_, rfl, ?_⟩; have n0_ := Aside0.mk (Kd.R_below (Kd.rZ HO_11.out) hb); have n1_ := Aside0.mk (Kd.R_below (Kd.rZ HO_61.out) hb); have n2_ := Aside0.mk (below_step bZ hb); clear HO_11; clear HO_61; clear HB; have HO_11 := n0_; have HO_61 := n1_; have HB := n2_; clear n0_ n1_ n2_; (try clear hb); (try clear hb2); (try clear hk); (try clear hi)) | ((with_reducible refine gate_builtin (b := .append) (xs := #[.tmp 85, .tmp 92]) rfl ?_); (try (refine gate_guard (by rfl) ?_; dsimp only)); at_builtin; refine Kd.R_append k49 (w0 := w) w.heap.size rfl (.tmp 85) (.tmp 92) 24 49 (.agg #[(.int .i64 0), (.int .i64 0)]) 16 rfl Try.underlying24 info49 rfl (by decide) (by omega) u11 x11_3 (⟨(rd t226 x63_3), t238⟩ : S49) [.int .i64 (rd t226 x63_3), .int .i64 t238] (fun _ => True) (fun _ => False) rfl rfl ?aP (fun _ hk => hk.elim) ?aF ?aO ?aB ?aS ?aL ?_; (case aP => exact k49_mkM _ _ _ (⟨(rd t226 x63_3), t238⟩ : S49)); (case aB => exact bZ); (case aF => exact (fun _ _ => trivial)); (case aO => exact (Kd.rZ HO_11.out)); (case aS => exact bsZ); (case aL => have := LMc43.out; omega); intro v240 w45 ho hb hg hat; rw [← Ny239.out] at ho; have n0_ := Aside0.mk (Kd.R_over' (Kd.rZ HO_61.out) (Kd.R_typed (Kd.rZ HO_11.out)) (by decide) hg); have n1_ := Aside0.mk (hb); have n2_ := Aside0.mk (ho); clear HO_61; clear HB; clear HO_11; have HO_61 := n0_; have HB := n1_; have HO241 := n2_; clear n0_ n1_ n2_; clear ho hb hg hat))
                   go_roundg k4
                   case measure => have := HJ7.out; have := HK2.out; have := HK3.out; have := HK4.out; omega
                   case rel => exact ⟨(y239), (wrap64 (x63_3 + 1)), sZ, H', ⟨by have := HJ7.out; have := HK2.out; have := HK3.out; have := HK4.out; omega⟩, ⟨Kd.rZ HO241.out⟩, ⟨Kd.rZ HO_61.out⟩, ⟨bZ⟩⟩
                  ·rw [if_neg c43] at H
                   exact absurd H (by simp)
              ·rw [if_neg c33] at H
               exact absurd H (by simp)
             ·rw [if_neg c32] at H
              exact absurd H (by simp)
            ·rw [if_neg c31] at H
             have c31b0 : decide (x63_3 < (t226.length : Int)) = false := decide_eq_false c31
             clear c31
             replace H := Option.bind_eq_some_iff.mp H
             obtain ⟨⟨t229, t230⟩, A460, H⟩ := H
             replace H : (some (t229, t230)) = some (r1, r2) := H
             have A46 := Aside0.mk A460
             clear A460
             simp only [Option.some.injEq, Prod.mk.injEq] at H
             obtain ⟨rfl, rfl⟩ := H
             obtain ⟨Ao47, co47, eo47⟩ := Kd.R_slice HO_11.out
             subst eo47
             go_wp2_with (first | ((with_reducible refine gate_callee (f := 29) rfl ?_); refine goesL_ (some 96) rfl rfl Try.func29 (by kernel_rfl) rfl #[.slice Ao47 x11_3.length co47] rfl gZ ?_; (with_reducible refine (impl_trimmedWave.calls k3 _ _ x11_3 t229 t230 _ ?side1 ?side2 A46.out).mono ?_); (case side1 => exact Kd.cZ HO_11.out); (case side2 => exact (Kd.R_reads' HO_11.out).2.1); rintro e w48 ⟨v231, rfl, ho0, hb⟩; refine ⟨_, rfl, ?_⟩; have n0_ := Aside0.mk (Kd.R_elder' (Kd.rZ HO_11.out) (Kd.R_base ho0) hb); have n1_ := Aside0.mk (Kd.R_below (Kd.rZ HO_61.out) hb); have n2_ := Aside0.mk (Kd.R_lower (Kd.R_new' ho0 (Kd.R_lt (Kd.rZ HO_11.out))) bsZ); have n3_ := Aside0.mk (below_step bZ hb); clear HO_11; clear HO_61; clear HB; have HO_11 := n0_; have HO_61 := n1_; have HO232 := n2_; have HB := n3_; clear n0_ n1_ n2_ n3_; (try clear hb); (try clear hb2); (try clear hk); (try clear hi); (try clear ho0)))
             go_ret2
             exact ⟨_, eZ, Kd.rZ (Kd.R_mono HO232.out (fun _ hk => trivial)), bZ⟩
  ·replace c7 := Bool.eq_false_iff.mpr c7
   subst c7
   have H1 : (some (([] : List (S49)), 2)) = some (r1, r2) := by rw [if_neg (show ¬ (false = true) by decide)] at H; exact H
   clear H
   have H := H1
   clear H1
   simp only [Option.some.injEq, Prod.mk.injEq] at H
   obtain ⟨rfl, rfl⟩ := H
   go_enter Try.func7, Try.ntmps7
   go_wp2_with (first | ((with_reducible refine gate_callee (f := 20) rfl ?_); refine goesL_ (some 19) rfl rfl Try.func20 (by kernel_rfl) rfl #[.slice A0 l0.length c0, .func (.func 21) #[] #[]] rfl gZ ?_; (with_reducible refine (slices_ContainsFunc_StepSS.calls k _ _ l0  false _ ?side1 ?side2 A3.out).mono ?_); (case side1 => repeat (first | exact HR0.out | (with_reducible refine Kd.C_alloc ?_ _) | (with_reducible refine Kd.C_drewN ?_ _) | (with_reducible refine Kd.C_drew ?_))); (case side2 => exact HC0.out); rintro e w49 ⟨rfl, hb⟩; refine ⟨_, rfl, ?_⟩; have n0_ := Aside0.mk (below_step bZ hb); clear HB; have HB := n0_; clear n0_; (try clear hb); (try clear hb2); (try clear hk); (try clear hi)) | ((with_reducible refine gate_callee (f := 23) rfl ?_); refine goesL_ (some 22) rfl rfl Try.func23 (by kernel_rfl) rfl #[.slice A1 l1.length c1, .int .i64 0, .int .i64 100000] rfl gZ ?_; (with_reducible refine (impl_allWithin.calls _ _ l1 0 100000 false _ ?side1 ?side2 A6.out).mono ?_); (case side1 => repeat (first | exact (Kd.C_below HR1.out HB.out) | (with_reducible refine Kd.C_alloc ?_ _) | (with_reducible refine Kd.C_drewN ?_ _) | (with_reducible refine Kd.C_drew ?_))); (case side2 => exact HC1.out); rintro e w50 ⟨rfl, hb⟩; refine ⟨_, rfl, ?_⟩; have n0_ := Aside0.mk (below_step bZ hb); clear HB; have HB := n0_; clear n0_; (try clear hb); (try clear hb2); (try clear hk); (try clear hi)))
   go_ret2
   exact ⟨_, eZ, by first | exact Kd.R_nil _ _ _ _ _ | exact Kd.N_nil _ _ _ _ _ | exact Kd.V_nil _ _ _ _ _ | exact Kd.Q_nil _ _ _ _ _ | exact Kd.S_nil _ _ _ _ _, bZ⟩
end Go.Proofs.Ytmmlhbfkchbpaaa.XX
end

section
namespace Go.Proofs.Ytmmlhbfkchbpaaa.XX
open Go.RowKit Go.Proofs.YtmmlhbfkchbpaaaW.PrintWords Go.Proofs.YtmmlhbfkchbpaaaW.PrintLast Go.Proofs.YtmmlhbfkchbpaaaW.PrintMore
attribute [local go_sem] run_eql_slice_nil binOp_string_gtr' binOp_string_leq' binOp_string_geq' max2_int min2_int max_two min_two max_three min_three max_four min_four   -- for this text's walks alone
set_option linter.unusedVariables false
set_option linter.unusedSimpArgs false
theorem eqA49 (d : Nat) (w : World) (x0 y0 : Int) (x1 y1 : Int) :
  (Op.equalIn (d + 2) 49 (.agg #[.int .i64 x0, .int .i64 x1]) (.agg #[.int .i64 y0, .int .i64 y1])).run Try.prog w = .ok (x0 == y0 && (x1 == y1)) w := by
 refine eqA_of Try.underlying49 (by kernel_rfl) ?_
 refine eqf_cons (by rfl) (by go_simp; rfl) (by go_simp; rfl) (by go_simp) ?_
 exact eqf_last (by rfl) (by go_simp; rfl) (by go_simp; rfl) (by go_simp)
end Go.Proofs.Ytmmlhbfkchbpaaa.XX
end

section
namespace Go.Proofs.Ytmmlhbfkchbpaaa.XX
open Go.RowKit Go.Proofs.YtmmlhbfkchbpaaaW.PrintWords Go.Proofs.YtmmlhbfkchbpaaaW.PrintLast Go.Proofs.YtmmlhbfkchbpaaaW.PrintMore
attribute [local go_sem] run_eql_slice_nil binOp_string_gtr' binOp_string_leq' binOp_string_geq' max2_int min2_int max_two min_two max_three min_three max_four min_four   -- for this text's walks alone
set_option linter.unusedVariables false
set_option linter.unusedSimpArgs false
def spec_l00In.f (a0 : Int) (a1 : Int) (a2 : Int) : Option (Bool) := if a0 ≥ a1 then (some (decide (a0 ≤ a2))) else (some false)
set_option maxHeartbeats 8000000 in
set_option maxRecDepth 100000 in
theorem spec_l00In.calls (a0 : Int) (a1 : Int) (a2 : Int) (r : Bool) (w : World) (h : spec_l00In.f a0 a1 a2 = some r) :
  Calls Try.prog 60 #[.int .i64 a0, .int .i64 a1, .int .i64 a2] w fun e w' => e = .returned (.bool r) ∧ Drawn0 w w' := by
 have H : (if a0 ≥ a1 then (some (decide (a0 ≤ a2))) else (some false)) = some r := h
 clear h
 by_cases c4 : a0 ≥ a1
 ·rw [if_pos c4] at H
  have c4b0 : decide (a1 ≤ a0) = true := decide_eq_true c4
  clear c4
  obtain rfl := Option.some.inj H
  go_enter Try.func60, Try.ntmps60
  go_wp2
  go_ret
  exact ⟨sZ, dZ⟩
 ·rw [if_neg c4] at H
  have c4b0 : decide (a1 ≤ a0) = false := decide_eq_false c4
  clear c4
  obtain rfl := Option.some.inj H
  go_enter Try.func60, Try.ntmps60
  go_wp2
  go_ret
  exact ⟨sZ, dZ⟩
def spec_l09Time.f (a0 : Int) : Option (Bool) := (spec_l00In.f a0 0 1000000).bind fun t242 => (some t242)
set_option maxHeartbeats 8000000 in
set_option maxRecDepth 100000 in
theorem spec_l09Time.calls (a0 : Int) (r : Bool) (w : World) (h : spec_l09Time.f a0 = some r) :
  Calls Try.prog 33 #[.int .i64 a0] w fun e w' => e = .returned (.bool r) ∧ Drawn0 w w' := by
 have H : ((spec_l00In.f a0 0 1000000).bind fun t242 => (some t242)) = some r := h
 clear h
 replace H := Option.bind_eq_some_iff.mp H
 obtain ⟨t242, A20, H⟩ := H
 replace H : (some t242) = some r := H
 have A2 := Aside0.mk A20
 clear A20
 obtain rfl := Option.some.inj H
 go_enter Try.func33, Try.ntmps33
 go_wp2_with (first | ((with_reducible refine gate_callee (f := 60) rfl ?_); refine goesL_ (some 4) rfl rfl Try.func60 (by kernel_rfl) rfl #[.int .i64 a0, .int .i64 0, .int .i64 1000000] rfl gZ ?_; (with_reducible refine (spec_l00In.calls a0 0 1000000 t242 _ A2.out).mono ?_); rintro e w' ⟨rfl, ⟨nd, rfl⟩⟩; refine ⟨_, rfl, ?_⟩))
 go_ret
 exact ⟨sZ, dZ⟩
def spec_l03Degrees.f (a0 : Int) : Option (Bool) := (spec_l00In.f a0 (-5000) 20000).bind fun t243 => (some t243)
set_option maxHeartbeats 8000000 in
set_option maxRecDepth 100000 in
theorem spec_l03Degrees.calls (a0 : Int) (r : Bool) (w : World) (h : spec_l03Degrees.f a0 = some r) :
  Calls Try.prog 46 #[.int .i64 a0] w fun e w' => e = .returned (.bool r) ∧ Drawn0 w w' := by
 have H : ((spec_l00In.f a0 (-5000) 20000).bind fun t243 => (some t243)) = some r := h
 clear h
 replace H := Option.bind_eq_some_iff.mp H
 obtain ⟨t243, A20, H⟩ := H
 replace H : (some t243) = some r := H
 have A2 := Aside0.mk A20
 clear A20
 obtain rfl := Option.some.inj H
 go_enter Try.func46, Try.ntmps46
 go_wp2_with (first | ((with_reducible refine gate_callee (f := 60) rfl ?_); refine goesL_ (some 4) rfl rfl Try.func60 (by kernel_rfl) rfl #[.int .i64 a0, .int .i64 (-5000), .int .i64 20000] rfl gZ ?_; (with_reducible refine (spec_l00In.calls a0 (-5000) 20000 t243 _ A2.out).mono ?_); rintro e w' ⟨rfl, ⟨nd, rfl⟩⟩; refine ⟨_, rfl, ?_⟩))
 go_ret
 exact ⟨sZ, dZ⟩
end Go.Proofs.Ytmmlhbfkchbpaaa.XX
end
