/- The law FnExactThroughPipe: part 3 of its texts, joined (wip/pack.py). -/
import Derived.Test.YtahadhldokhifaaKFnExactThroughPipea
import Derived.Test.YtahadhldokhifaaKFnExactThroughPipeb
import Derived.Test.YtahadhldokhifaaKFnExactThroughPipec

section
namespace Go.Proofs.Ytahadhldokhifaa.XP
open Go.RowKit Go.Proofs.YtahadhldokhifaaW.PrintWords Go.Proofs.YtahadhldokhifaaW.PrintLast Go.Proofs.YtahadhldokhifaaW.PrintMore
attribute [local go_sem] run_eql_slice_nil binOp_string_gtr' binOp_string_leq' binOp_string_geq' max2_int min2_int max_two min_two max_three min_three max_four min_four   -- for this text's walks alone
set_option linter.unusedVariables false
set_option linter.unusedSimpArgs false
def spec_l03Flow.f (a0 : Int) : Option (Bool) := (spec_l00In.f a0 (-100000) 100000).bind fun t123 => (some t123)
set_option maxHeartbeats 8000000 in
set_option maxRecDepth 100000 in
theorem spec_l03Flow.calls (a0 : Int) (r : Bool) (w : World) (h : spec_l03Flow.f a0 = some r) :
  Calls Try.prog 15 #[.int .i64 a0] w fun e w' => e = .returned (.bool r) ∧ Drawn0 w w' := by
 have H : ((spec_l00In.f a0 (-100000) 100000).bind fun t123 => (some t123)) = some r := h
 clear h
 replace H := Option.bind_eq_some_iff.mp H
 obtain ⟨t123, A20, H⟩ := H
 replace H : (some t123) = some r := H
 have A2 := Aside0.mk A20
 clear A20
 obtain rfl := Option.some.inj H
 go_enter Try.func15, Try.ntmps15
 go_wp2_with (first | ((with_reducible refine gate_callee (f := 31) rfl ?_); refine goesL_ (some 4) rfl rfl Try.func31 (by kernel_rfl) rfl #[.int .i64 a0, .int .i64 (-100000), .int .i64 100000] rfl gZ ?_; (with_reducible refine (spec_l00In.calls a0 (-100000) 100000 t123 _ A2.out).mono ?_); rintro e w' ⟨rfl, ⟨nd, rfl⟩⟩; refine ⟨_, rfl, ?_⟩))
 go_ret
 exact ⟨sZ, dZ⟩
def spec_l09Trim.l0 : Nat → List (S43) → List (S43) → Int → Option ((List (S43)))
 | 0, _, _, _ => none
 | k + 1, x0, x3, x4 => if x4 < (x0.length : Int) then (if (x3.length : Int) = 0 then (if 0 ≤ x4 then (if x3.length < 8796093022208 then (spec_l09Trim.l0 k x0 (x3 ++ [(⟨(rd_T43 x0 x4).f0, (rd_T43 x0 x4).f1⟩ : S43)]) (wrap64 (x4 + 1))) else (none)) else (none)) else (if 0 ≤ (wrap64 ((x3.length : Int) - 1)) then (if (wrap64 ((x3.length : Int) - 1)) < (x3.length : Int) then (if 0 ≤ x4 then (if ((rd_T43 x3 (wrap64 ((x3.length : Int) - 1))).f1) = ((rd_T43 x0 x4).f1) then (spec_l09Trim.l0 k x0 x3 (wrap64 (x4 + 1))) else (if x3.length < 8796093022208 then (spec_l09Trim.l0 k x0 (x3 ++ [(⟨(rd_T43 x0 x4).f0, (rd_T43 x0 x4).f1⟩ : S43)]) (wrap64 (x4 + 1))) else (none))) else (none)) else (none)) else (none))) else (some x3)
def spec_l09Trim.f (k : Nat) (l0 : List (S43)) : Option ((List (S43))) := spec_l09Trim.l0 k l0 (([] : List (S43))) 0
set_option maxHeartbeats 8000000 in
set_option maxRecDepth 100000 in
theorem spec_l09Trim.calls (k : Nat) (A0 : Option Addr) (c0 : Nat) (l0 : List (S43)) (r : List (S43)) (w : World) (hr0 : Kd.C k43 w A0 l0.length l0) (hc0 : l0.length ≤ c0) (h : spec_l09Trim.f k l0 = some r) :
  Calls Try.prog 33 #[.slice A0 l0.length c0] w fun e w' => ∃ v0_ : Value, e = .returned (v0_) ∧ Kd.R k43 43 w' w.heap.size (fun _ => True) v0_ r ∧ Below w.heap.size w w' := by
 have hu43 := Try.underlying43
 have HR0 := Aside0.mk hr0
 have HC0 := Aside0.mk hc0
 clear hr0 hc0
 have HB := Aside0.mk (Below.refl w.heap.size w)
 have H : (spec_l09Trim.l0 k l0 (([] : List (S43))) 0) = some r := h
 clear h
 obtain ⟨y124, hy124⟩ : ∃ y_ : List (S43), y_ = (([] : List (S43))) := ⟨_, rfl⟩
 replace H : (spec_l09Trim.l0 k l0 y124 0) = some r := by first | (rw [hy124]; with_reducible exact H) | (have H2_ := (Option.bind_some _ _).symm.trans H; rw [hy124]; with_reducible exact H2_) | (have H2_ := (Option.bind_some _ _).symm.trans H; with_reducible exact H2_) | with_reducible exact H | (rw [hy124]; exact H) | exact H
 have Ny124 := Aside0.mk hy124
 clear hy124
 have H' := Aside0.mk H
 clear H
 go_enter Try.func33, Try.ntmps33
 go_wp2_with (first | ((with_reducible refine gate_dst (N := 5) rfl ?_); (try (refine gate_guard (by rfl) ?_; dsimp only)); refine Kd.R_lit k43 _ 43 ?hg (N := 5) ?hd (xs := ([] : List (S43))) (inner := []) (ok := fun _ => True) (okp := fun _ => True) ?hr ?hp (fun _ hk => hk) trivial (Below.refl _ _) (Nat.le_refl _) (by simp) ?_; (case hd => rfl); (case hg => rfl); (case hr => first | (go_simp; done) | (go_simp; rfl)); (case hp => exact (Reps.none _ _)); intro v125 w2 ho3 hb hg_ hnew_; clear hg_ hnew_; (first | rw [← Ny124.out] at ho3 | (simp only [Int.reduceToNat] at ho3; rw [← Ny124.out] at ho3)); have n0_ := Aside0.mk (Kd.R_lower ho3 bsZ); have n1_ := Aside0.mk (below_step bZ hb); clear HB; have HO126 := n0_; have HB := n1_; clear n0_ n1_; clear hb ho3))
 repeat (go_quiet (first | ((with_reducible refine gate_dst (N := 5) rfl ?_); (try (refine gate_guard (by rfl) ?_; dsimp only)); refine Kd.R_lit k43 _ 43 ?hg (N := 5) ?hd (xs := ([] : List (S43))) (inner := []) (ok := fun _ => True) (okp := fun _ => True) ?hr ?hp (fun _ hk => hk) trivial (Below.refl _ _) (Nat.le_refl _) (by simp) ?_; (case hd => rfl); (case hg => rfl); (case hr => first | (go_simp; done) | (go_simp; rfl)); (case hp => exact (Reps.none _ _)); intro v125 w2 ho3 hb hg_ hnew_; clear hg_ hnew_; (first | rw [← Ny124.out] at ho3 | (simp only [Int.reduceToNat] at ho3; rw [← Ny124.out] at ho3)); have n0_ := Aside0.mk (Kd.R_lower ho3 bsZ); have n1_ := Aside0.mk (below_step bZ hb); clear HB; have HO126 := n0_; have HB := n1_; clear n0_ n1_; clear hb ho3)); try go_wp2_with (first | ((with_reducible refine gate_dst (N := 5) rfl ?_); (try (refine gate_guard (by rfl) ?_; dsimp only)); refine Kd.R_lit k43 _ 43 ?hg (N := 5) ?hd (xs := ([] : List (S43))) (inner := []) (ok := fun _ => True) (okp := fun _ => True) ?hr ?hp (fun _ hk => hk) trivial (Below.refl _ _) (Nat.le_refl _) (by simp) ?_; (case hd => rfl); (case hg => rfl); (case hr => first | (go_simp; done) | (go_simp; rfl)); (case hp => exact (Reps.none _ _)); intro v125 w2 ho3 hb hg_ hnew_; clear hg_ hnew_; (first | rw [← Ny124.out] at ho3 | (simp only [Int.reduceToNat] at ho3; rw [← Ny124.out] at ho3)); have n0_ := Aside0.mk (Kd.R_lower ho3 bsZ); have n1_ := Aside0.mk (below_step bZ hb); clear HB; have HO126 := n0_; have HB := n1_; clear n0_ n1_; clear hb ho3)))
 go_loopg [3, 4] k (fun kq v3 v4 w' => ∃ (x3_1 : List (S43)) (x4_1 : Int), v4 = .int .i64 x4_1 ∧ Aside0 (spec_l09Trim.l0 kq l0 x3_1 x4_1 = some r) ∧ Aside0 (kq ≤ k) ∧ Aside0 (Kd.R k43 43 w' w.heap.size (fun _ => True) v3 x3_1) ∧ Aside0 (Below w.heap.size w w'))
 case atStart => exact ⟨(y124), (0), sZ, H', ⟨Nat.le_refl _⟩, ⟨Kd.rZ HO126.out⟩, ⟨bZ⟩⟩
 case round =>
  clear H'; (try clear p2); (try clear c3)
  obtain ⟨x3_1, x4_1, rfl, HA, HK1, HO_3, HB⟩ := hrel
  cases gk with
  | zero => exact absurd HA.out (by simp [spec_l09Trim.l0])
  | succ k1 =>
   have H := HA.out
   clear HA
   simp only [spec_l09Trim.l0] at H
   by_cases c4 : x4_1 < (l0.length : Int)
   ·rw [if_pos c4] at H
    have c4b0 : decide (x4_1 < (l0.length : Int)) = true := decide_eq_true c4
    clear c4
    by_cases c5 : (x3_1.length : Int) = 0
    ·rw [if_pos c5] at H
     have c5b0 : ((x3_1.length : Int) == 0) = true := beq_iff_eq.mpr c5
     have c5b1 : ((x3_1.length : Int) != 0) = false := bne_eq_false_iff_eq.mpr c5
     clear c5
     by_cases c6 : 0 ≤ x4_1
     ·rw [if_pos c6] at H
      have c6b0 : decide (0 ≤ x4_1) = true := decide_eq_true c6
      clear c6
      by_cases c7 : x3_1.length < 8796093022208
      ·rw [if_pos c7] at H
       have LMc7 := Aside0.mk c7
       clear c7
       obtain ⟨y128, hy128⟩ : ∃ y_ : List (S43), y_ = (x3_1 ++ [(⟨(rd_T43 l0 x4_1).f0, (rd_T43 l0 x4_1).f1⟩ : S43)]) := ⟨_, rfl⟩
       replace H : (spec_l09Trim.l0 k1 l0 y128 (wrap64 (x4_1 + 1))) = some r := by first | (rw [hy128]; with_reducible exact H) | (have H2_ := (Option.bind_some _ _).symm.trans H; rw [hy128]; with_reducible exact H2_) | (have H2_ := (Option.bind_some _ _).symm.trans H; with_reducible exact H2_) | with_reducible exact H | (rw [hy128]; exact H) | exact H
       have Ny128 := Aside0.mk hy128
       clear hy128
       have H' := Aside0.mk H
       clear H
       obtain ⟨Ao8, co8, eo8⟩ := Kd.R_slice HO_3.out
       subst eo8
       have p127 : 0 ≤ (x4_1 : Int) := oZ
       have q127 : x4_1 < (l0.length : Int) := oZ
       obtain ⟨ad127, e127, hx127_0, hx127_1⟩ := at_T43 HR0.out x4_1 p127 q127
       cases e127
       replace hx127_0 := (HB.out.cell (World.block_lt_of_cell? w _ hx127_0)).trans hx127_0
       replace hx127_1 := (HB.out.cell (World.block_lt_of_cell? w _ hx127_1)).trans hx127_1
       replace p127 := eq_true p127
       replace q127 := eq_true q127
       go_wp2_with (first | ((with_reducible refine gate_builtin (b := .append) (xs := #[.tmp 30, .tmp 35]) rfl ?_); (try (refine gate_guard (by rfl) ?_; dsimp only)); at_builtin; refine Kd.R_append k43 (w0 := w) w.heap.size rfl (.tmp 30) (.tmp 35) 27 43 (.agg #[(.int .i64 0), (.int .i64 0)]) 16 rfl Try.underlying27 info43 rfl (by decide) (by omega) (.slice Ao8 x3_1.length co8) x3_1 (⟨(rd_T43 l0 x4_1).f0, (rd_T43 l0 x4_1).f1⟩ : S43) [.int .i64 ((rd_T43 l0 x4_1).f0), .int .i64 ((rd_T43 l0 x4_1).f1)] (fun _ => True) (fun _ => False) rfl rfl ?aP (fun _ hk => hk.elim) ?aF ?aO ?aB ?aS ?aL ?_; (case aP => exact k43_mkM _ _ _ (⟨(rd_T43 l0 x4_1).f0, (rd_T43 l0 x4_1).f1⟩ : S43)); (case aB => exact bZ); (case aF => exact (fun _ _ => trivial)); (case aO => exact (Kd.rZ HO_3.out)); (case aS => exact bsZ); (case aL => have := LMc7.out; omega); intro v129 w9 ho hb hg hat; rw [← Ny128.out] at ho; have n0_ := Aside0.mk (hb); have n1_ := Aside0.mk (ho); clear HB; clear HO_3; have HB := n0_; have HO130 := n1_; clear n0_ n1_; clear ho hb hg hat))
       repeat (go_quiet (first | ((with_reducible refine gate_builtin (b := .append) (xs := #[.tmp 30, .tmp 35]) rfl ?_); (try (refine gate_guard (by rfl) ?_; dsimp only)); at_builtin; refine Kd.R_append k43 (w0 := w) w.heap.size rfl (.tmp 30) (.tmp 35) 27 43 (.agg #[(.int .i64 0), (.int .i64 0)]) 16 rfl Try.underlying27 info43 rfl (by decide) (by omega) (.slice Ao8 x3_1.length co8) x3_1 (⟨(rd_T43 l0 x4_1).f0, (rd_T43 l0 x4_1).f1⟩ : S43) [.int .i64 ((rd_T43 l0 x4_1).f0), .int .i64 ((rd_T43 l0 x4_1).f1)] (fun _ => True) (fun _ => False) rfl rfl ?aP (fun _ hk => hk.elim) ?aF ?aO ?aB ?aS ?aL ?_; (case aP => exact k43_mkM _ _ _ (⟨(rd_T43 l0 x4_1).f0, (rd_T43 l0 x4_1).f1⟩ : S43)); (case aB => exact bZ); (case aF => exact (fun _ _ => trivial)); (case aO => exact (Kd.rZ HO_3.out)); (case aS => exact bsZ); (case aL => have := LMc7.out; omega); intro v129 w9 ho hb hg hat; rw [← Ny128.out] at ho; have n0_ := Aside0.mk (hb); have n1_ := Aside0.mk (ho); clear HB; clear HO_3; have HB := n0_; have HO130 := n1_; clear n0_ n1_; clear ho hb hg hat)); try go_wp2_with (first | ((with_reducible refine gate_builtin (b := .append) (xs := #[.tmp 30, .tmp 35]) rfl ?_); (try (refine gate_guard (by rfl) ?_; dsimp only)); at_builtin; refine Kd.R_append k43 (w0 := w) w.heap.size rfl (.tmp 30) (.tmp 35) 27 43 (.agg #[(.int .i64 0), (.int .i64 0)]) 16 rfl Try.underlying27 info43 rfl (by decide) (by omega) (.slice Ao8 x3_1.length co8) x3_1 (⟨(rd_T43 l0 x4_1).f0, (rd_T43 l0 x4_1).f1⟩ : S43) [.int .i64 ((rd_T43 l0 x4_1).f0), .int .i64 ((rd_T43 l0 x4_1).f1)] (fun _ => True) (fun _ => False) rfl rfl ?aP (fun _ hk => hk.elim) ?aF ?aO ?aB ?aS ?aL ?_; (case aP => exact k43_mkM _ _ _ (⟨(rd_T43 l0 x4_1).f0, (rd_T43 l0 x4_1).f1⟩ : S43)); (case aB => exact bZ); (case aF => exact (fun _ _ => trivial)); (case aO => exact (Kd.rZ HO_3.out)); (case aS => exact bsZ); (case aL => have := LMc7.out; omega); intro v129 w9 ho hb hg hat; rw [← Ny128.out] at ho; have n0_ := Aside0.mk (hb); have n1_ := Aside0.mk (ho); clear HB; clear HO_3; have HB := n0_; have HO130 := n1_; clear n0_ n1_; clear ho hb hg hat)))
       go_roundg k1
       case measure => have := HK1.out; omega
       case rel => exact ⟨(y128), (wrap64 (x4_1 + 1)), sZ, H', ⟨by have := HK1.out; omega⟩, ⟨Kd.rZ HO130.out⟩, ⟨bZ⟩⟩
      ·rw [if_neg c7] at H
       exact absurd H (by simp)
     ·rw [if_neg c6] at H
      exact absurd H (by simp)
    ·rw [if_neg c5] at H
     have c5b0 : ((x3_1.length : Int) == 0) = false := beq_eq_false_iff_ne.mpr c5
     have c5b1 : ((x3_1.length : Int) != 0) = true := bne_iff_ne.mpr c5
     have c5b2 : ¬ (x3_1 = []) := fun h_ => c5 (by rw [h_]; rfl)
     obtain ⟨ji10, hji10⟩ : ∃ j_ : Int, (wrap64 ((x3_1.length : Int) - 1)) = j_ := ⟨_, rfl⟩
     replace H : (if 0 ≤ (ji10) then (if (ji10) < (x3_1.length : Int) then (if 0 ≤ x4_1 then (if ((rd_T43 x3_1 (ji10)).f1) = ((rd_T43 l0 x4_1).f1) then (spec_l09Trim.l0 k1 l0 x3_1 (wrap64 (x4_1 + 1))) else (if x3_1.length < 8796093022208 then (spec_l09Trim.l0 k1 l0 (x3_1 ++ [(⟨(rd_T43 l0 x4_1).f0, (rd_T43 l0 x4_1).f1⟩ : S43)]) (wrap64 (x4_1 + 1))) else (none))) else (none)) else (none)) else (none)) = some r := by first | (rw [hji10] at H; exact H) | (simp only [hji10] at H ⊢; exact H)
     have hji10w : (IntKind.i64.wrap ((x3_1.length : Int) - 1)) = ji10 := (i64_w _).trans hji10
     by_cases c11 : 0 ≤ (ji10)
     ·rw [if_pos c11] at H
      have c11b0 : decide (0 ≤ (ji10)) = true := decide_eq_true c11
      clear c11
      by_cases c12 : (ji10) < (x3_1.length : Int)
      ·rw [if_pos c12] at H
       have c12b0 : decide ((ji10) < (x3_1.length : Int)) = true := decide_eq_true c12
       clear c12
       by_cases c13 : 0 ≤ x4_1
       ·rw [if_pos c13] at H
        have c13b0 : decide (0 ≤ x4_1) = true := decide_eq_true c13
        clear c13
        by_cases c14 : ((rd_T43 x3_1 (ji10)).f1) = ((rd_T43 l0 x4_1).f1)
        ·rw [if_pos c14] at H
         have c14b0 : (((rd_T43 x3_1 (ji10)).f1) == ((rd_T43 l0 x4_1).f1)) = true := beq_iff_eq.mpr c14
         have c14b1 : (((rd_T43 x3_1 (ji10)).f1) != ((rd_T43 l0 x4_1).f1)) = false := bne_eq_false_iff_eq.mpr c14
         clear c14
         have H' := Aside0.mk H
         clear H
         obtain ⟨Ao15, co15, eo15⟩ := Kd.R_slice HO_3.out
         subst eo15
         have p131 : 0 ≤ ((ji10) : Int) := oZ
         have q131 : (ji10) < (x3_1.length : Int) := oZ
         obtain ⟨ad131, e131, hx131_0, hx131_1⟩ := at_T43 (Kd.R_reads' HO_3.out).2.2 (ji10) p131 q131
         cases e131
         replace p131 := eq_true p131
         replace q131 := eq_true q131
         have p132 : 0 ≤ (x4_1 : Int) := oZ
         have q132 : x4_1 < (l0.length : Int) := oZ
         obtain ⟨ad132, e132, hx132_0, hx132_1⟩ := at_T43 HR0.out x4_1 p132 q132
         cases e132
         replace hx132_0 := (HB.out.cell (World.block_lt_of_cell? w _ hx132_0)).trans hx132_0
         replace hx132_1 := (HB.out.cell (World.block_lt_of_cell? w _ hx132_1)).trans hx132_1
         replace p132 := eq_true p132
         replace q132 := eq_true q132
         go_wp2
         repeat (go_quiet (fail); try go_wp2)
         go_roundg k1
         case measure => have := HK1.out; omega
         case rel => exact ⟨(x3_1), (wrap64 (x4_1 + 1)), sZ, H', ⟨by have := HK1.out; omega⟩, ⟨Kd.rZ HO_3.out⟩, ⟨bZ⟩⟩
        ·rw [if_neg c14] at H
         have c14b0 : (((rd_T43 x3_1 (ji10)).f1) == ((rd_T43 l0 x4_1).f1)) = false := beq_eq_false_iff_ne.mpr c14
         have c14b1 : (((rd_T43 x3_1 (ji10)).f1) != ((rd_T43 l0 x4_1).f1)) = true := bne_iff_ne.mpr c14
         by_cases c16 : x3_1.length < 8796093022208
         ·rw [if_pos c16] at H
          have LMc16 := Aside0.mk c16
          clear c16
          obtain ⟨y134, hy134⟩ : ∃ y_ : List (S43), y_ = (x3_1 ++ [(⟨(rd_T43 l0 x4_1).f0, (rd_T43 l0 x4_1).f1⟩ : S43)]) := ⟨_, rfl⟩
          replace H : (spec_l09Trim.l0 k1 l0 y134 (wrap64 (x4_1 + 1))) = some r := by first | (rw [hy134]; with_reducible exact H) | (have H2_ := (Option.bind_some _ _).symm.trans H; rw [hy134]; with_reducible exact H2_) | (have H2_ := (Option.bind_some _ _).symm.trans H; with_reducible exact H2_) | with_reducible exact H | (rw [hy134]; exact H) | exact H
          have Ny134 := Aside0.mk hy134
          clear hy134
          have H' := Aside0.mk H
          clear H
          obtain ⟨Ao17, co17, eo17⟩ := Kd.R_slice HO_3.out
          subst eo17
          have p131 : 0 ≤ ((ji10) : Int) := oZ
          have q131 : (ji10) < (x3_1.length : Int) := oZ
          obtain ⟨ad131, e131, hx131_0, hx131_1⟩ := at_T43 (Kd.R_reads' HO_3.out).2.2 (ji10) p131 q131
          cases e131
          replace p131 := eq_true p131
          replace q131 := eq_true q131
          have p132 : 0 ≤ (x4_1 : Int) := oZ
          have q132 : x4_1 < (l0.length : Int) := oZ
          obtain ⟨ad132, e132, hx132_0, hx132_1⟩ := at_T43 HR0.out x4_1 p132 q132
          cases e132
          replace hx132_0 := (HB.out.cell (World.block_lt_of_cell? w _ hx132_0)).trans hx132_0
          replace hx132_1 := (HB.out.cell (World.block_lt_of_cell? w _ hx132_1)).trans hx132_1
          replace p132 := eq_true p132
          replace q132 := eq_true q132
          have p133 : 0 ≤ (x4_1 : Int) := oZ
          have q133 : x4_1 < (l0.length : Int) := oZ
          obtain ⟨ad133, e133, hx133_0, hx133_1⟩ := at_T43 HR0.out x4_1 p133 q133
          obtain rfl : ad132 = ad133 := (by injection e133)
          replace hx133_0 := (HB.out.cell (World.block_lt_of_cell? w _ hx133_0)).trans hx133_0
          replace hx133_1 := (HB.out.cell (World.block_lt_of_cell? w _ hx133_1)).trans hx133_1
          replace p133 := eq_true p133
          replace q133 := eq_true q133
          go_wp2_with (first | ((with_reducible refine gate_builtin (b := .append) (xs := #[.tmp 30, .tmp 35]) rfl ?_); (try (refine gate_guard (by rfl) ?_; dsimp only)); at_builtin; refine Kd.R_append k43 (w0 := w) w.heap.size rfl (.tmp 30) (.tmp 35) 27 43 (.agg #[(.int .i64 0), (.int .i64 0)]) 16 rfl Try.underlying27 info43 rfl (by decide) (by omega) (.slice (some ad131) x3_1.length co17) x3_1 (⟨(rd_T43 l0 x4_1).f0, (rd_T43 l0 x4_1).f1⟩ : S43) [.int .i64 ((rd_T43 l0 x4_1).f0), .int .i64 ((rd_T43 l0 x4_1).f1)] (fun _ => True) (fun _ => False) rfl rfl ?aP (fun _ hk => hk.elim) ?aF ?aO ?aB ?aS ?aL ?_; (case aP => exact k43_mkM _ _ _ (⟨(rd_T43 l0 x4_1).f0, (rd_T43 l0 x4_1).f1⟩ : S43)); (case aB => exact bZ); (case aF => exact (fun _ _ => trivial)); (case aO => exact (Kd.rZ HO_3.out)); (case aS => exact bsZ); (case aL => have := LMc16.out; omega); intro v135 w18 ho hb hg hat; rw [← Ny134.out] at ho; have n0_ := Aside0.mk (hb); have n1_ := Aside0.mk (ho); clear HB; clear HO_3; have HB := n0_; have HO136 := n1_; clear n0_ n1_; clear ho hb hg hat))
          repeat (go_quiet (first | ((with_reducible refine gate_builtin (b := .append) (xs := #[.tmp 30, .tmp 35]) rfl ?_); (try (refine gate_guard (by rfl) ?_; dsimp only)); at_builtin; refine Kd.R_append k43 (w0 := w) w.heap.size rfl (.tmp 30) (.tmp 35) 27 43 (.agg #[(.int .i64 0), (.int .i64 0)]) 16 rfl Try.underlying27 info43 rfl (by decide) (by omega) (.slice (some ad131) x3_1.length co17) x3_1 (⟨(rd_T43 l0 x4_1).f0, (rd_T43 l0 x4_1).f1⟩ : S43) [.int .i64 ((rd_T43 l0 x4_1).f0), .int .i64 ((rd_T43 l0 x4_1).f1)] (fun _ => True) (fun _ => False) rfl rfl ?aP (fun _ hk => hk.elim) ?aF ?aO ?aB ?aS ?aL ?_; (case aP => exact k43_mkM _ _ _ (⟨(rd_T43 l0 x4_1).f0, (rd_T43 l0 x4_1).f1⟩ : S43)); (case aB => exact bZ); (case aF => exact (fun _ _ => trivial)); (case aO => exact (Kd.rZ HO_3.out)); (case aS => exact bsZ); (case aL => have := LMc16.out; omega); intro v135 w18 ho hb hg hat; rw [← Ny134.out] at ho; have n0_ := Aside0.mk (hb); have n1_ := Aside0.mk (ho); clear HB; clear HO_3; have HB := n0_; have HO136 := n1_; clear n0_ n1_; clear ho hb hg hat)); try go_wp2_with (first | ((with_reducible refine gate_builtin (b := .append) (xs := #[.tmp 30, .tmp 35]) rfl ?_); (try (refine gate_guard (by rfl) ?_; dsimp only)); at_builtin; refine Kd.R_append k43 (w0 := w) w.heap.size rfl (.tmp 30) (.tmp 35) 27 43 (.agg #[(.int .i64 0), (.int .i64 0)]) 16 rfl Try.underlying27 info43 rfl (by decide) (by omega) (.slice (some ad131) x3_1.length co17) x3_1 (⟨(rd_T43 l0 x4_1).f0, (rd_T43 l0 x4_1).f1⟩ : S43) [.int .i64 ((rd_T43 l0 x4_1).f0), .int .i64 ((rd_T43 l0 x4_1).f1)] (fun _ => True) (fun _ => False) rfl rfl ?aP (fun _ hk => hk.elim) ?aF ?aO ?aB ?aS ?aL ?_; (case aP => exact k43_mkM _ _ _ (⟨(rd_T43 l0 x4_1).f0, (rd_T43 l0 x4_1).f1⟩ : S43)); (case aB => exact bZ); (case aF => exact (fun _ _ => trivial)); (case aO => exact (Kd.rZ HO_3.out)); (case aS => exact bsZ); (case aL => have := LMc16.out; omega); intro v135 w18 ho hb hg hat; rw [← Ny134.out] at ho; have n0_ := Aside0.mk (hb); have n1_ := Aside0.mk (ho); clear HB; clear HO_3; have HB := n0_; have HO136 := n1_; clear n0_ n1_; clear ho hb hg hat)))
          go_roundg k1
          case measure => have := HK1.out; omega
          case rel => exact ⟨(y134), (wrap64 (x4_1 + 1)), sZ, H', ⟨by have := HK1.out; omega⟩, ⟨Kd.rZ HO136.out⟩, ⟨bZ⟩⟩
         ·rw [if_neg c16] at H
          exact absurd H (by simp)
       ·rw [if_neg c13] at H
        exact absurd H (by simp)
      ·rw [if_neg c12] at H
       exact absurd H (by simp)
     ·rw [if_neg c11] at H
      exact absurd H (by simp)
   ·rw [if_neg c4] at H
    have c4b0 : decide (x4_1 < (l0.length : Int)) = false := decide_eq_false c4
    clear c4
    obtain rfl := Option.some.inj H
    go_wp2
    repeat (go_quiet (fail); try go_wp2)
    go_ret
    exact ⟨_, eZ, Kd.rZ HO_3.out, bZ⟩
end Go.Proofs.Ytahadhldokhifaa.XP
end

section
namespace Go.Proofs.Ytahadhldokhifaa.XP
open Go.RowKit Go.Proofs.YtahadhldokhifaaW.PrintWords Go.Proofs.YtahadhldokhifaaW.PrintLast Go.Proofs.YtahadhldokhifaaW.PrintMore
attribute [local go_sem] run_eql_slice_nil binOp_string_gtr' binOp_string_leq' binOp_string_geq' max2_int min2_int max_two min_two max_three min_three max_four min_four   -- for this text's walks alone
set_option linter.unusedVariables false
set_option linter.unusedSimpArgs false
def spec_l09Done.l0 : Nat → List (S43) → Int → Option ((List (S43)) × Int)
 | 0, _, _ => none
 | k + 1, x4, x5 => if x5 < (x4.length : Int) then (if 0 ≤ x5 then ((spec_l09Time.f ((rd_T43 x4 x5).f0)).bind fun t141 => (if t141 = true then (spec_l09Done.l0 k x4 (wrap64 (x5 + 1))) else (some (([] : List (S43)), 6)))) else (none)) else (if (x4.length : Int) > 24 then (some (([] : List (S43)), 5)) else (some (x4, 0)))
def spec_l09Done.f (k : Nat) (l0 : List (S43)) : Option ((List (S43)) × Int) := (spec_l09Trim.f k l0).bind fun t137 => (spec_l09Done.l0 k t137 0)
set_option maxHeartbeats 8000000 in
set_option maxRecDepth 100000 in
theorem spec_l09Done.calls (k : Nat) (A0 : Option Addr) (c0 : Nat) (l0 : List (S43)) (r1 : List (S43)) (r2 : Int) (w : World) (hr0 : Kd.C k43 w A0 l0.length l0) (hc0 : l0.length ≤ c0) (h : spec_l09Done.f k l0 = some (r1, r2)) :
  Calls Try.prog 17 #[.slice A0 l0.length c0] w fun e w' => ∃ v0_ : Value, e = .returned (.tuple #[v0_, .int .i64 r2]) ∧ Kd.R k43 43 w' w.heap.size (fun _ => True) v0_ r1 ∧ Below w.heap.size w w' := by
 have HR0 := Aside0.mk hr0
 have HC0 := Aside0.mk hc0
 clear hr0 hc0
 have HB := Aside0.mk (Below.refl w.heap.size w)
 have H : ((spec_l09Trim.f k l0).bind fun t137 => (spec_l09Done.l0 k t137 0)) = some (r1, r2) := h
 clear h
 replace H := Option.bind_eq_some_iff.mp H
 obtain ⟨t137, A20, H⟩ := H
 replace H : (spec_l09Done.l0 k t137 0) = some (r1, r2) := H
 have A2 := Aside0.mk A20
 clear A20
 have H' := Aside0.mk H
 clear H
 go_enter Try.func17, Try.ntmps17
 go_wp2_with (first | ((with_reducible refine gate_callee (f := 33) rfl ?_); refine goesL_ (some 7) rfl rfl Try.func33 (by kernel_rfl) rfl #[.slice A0 l0.length c0] rfl gZ ?_; (with_reducible refine (spec_l09Trim.calls k _ _ l0 t137 _ ?side1 ?side2 A2.out).mono ?_); (case side1 => repeat (first | exact HR0.out | (with_reducible refine Kd.C_alloc ?_ _) | (with_reducible refine Kd.C_drewN ?_ _) | (with_reducible refine Kd.C_drew ?_))); (case side2 => exact HC0.out); rintro e w3 ⟨v138, rfl, ho0, hb⟩; refine ⟨_, rfl, ?_⟩; have n0_ := Aside0.mk (Kd.R_lower ho0 bsZ); have n1_ := Aside0.mk (below_step bZ hb); clear HB; have HO139 := n0_; have HB := n1_; clear n0_ n1_; (try clear hb); (try clear hb2); (try clear hk); (try clear hi); (try clear ho0)))
 go_loopg [5] k (fun kq v5 w' => ∃ (x5_1 : Int), v5 = .int .i64 x5_1 ∧ Aside0 (spec_l09Done.l0 kq t137 x5_1 = some (r1, r2)) ∧ Aside0 (kq ≤ k) ∧ Aside0 (Kd.R k43 43 w' w.heap.size (fun _ => True) v138 t137) ∧ Aside0 (Below w.heap.size w w'))
 case atStart => exact ⟨(0), sZ, H', ⟨Nat.le_refl _⟩, ⟨Kd.rZ HO139.out⟩, ⟨bZ⟩⟩
 case round =>
  clear H'; (try clear c1); (try clear p2); (try clear c3)
  obtain ⟨x5_1, rfl, HA, HK1, HO_4, HB⟩ := hrel
  cases gk with
  | zero => exact absurd HA.out (by simp [spec_l09Done.l0])
  | succ k1 =>
   have H := HA.out
   clear HA
   simp only [spec_l09Done.l0] at H
   by_cases c4 : x5_1 < (t137.length : Int)
   ·rw [if_pos c4] at H
    have c4b0 : decide (x5_1 < (t137.length : Int)) = true := decide_eq_true c4
    clear c4
    by_cases c5 : 0 ≤ x5_1
    ·rw [if_pos c5] at H
     have c5b0 : decide (0 ≤ x5_1) = true := decide_eq_true c5
     clear c5
     replace H := Option.bind_eq_some_iff.mp H
     obtain ⟨t141, A60, H⟩ := H
     replace H : (if t141 = true then (spec_l09Done.l0 k1 t137 (wrap64 (x5_1 + 1))) else (some (([] : List (S43)), 6))) = some (r1, r2) := H
     have A6 := Aside0.mk A60
     clear A60
     by_cases c7 : t141 = true
     ·subst c7
      have H1 : (spec_l09Done.l0 k1 t137 (wrap64 (x5_1 + 1))) = some (r1, r2) := by rw [if_pos rfl] at H; exact H
      clear H
      have H := H1
      clear H1
      have H' := Aside0.mk H
      clear H
      obtain ⟨Ao8, co8, eo8⟩ := Kd.R_slice HO_4.out
      subst eo8
      have p140 : 0 ≤ (x5_1 : Int) := oZ
      have q140 : x5_1 < (t137.length : Int) := oZ
      obtain ⟨ad140, e140, hx140_0, hx140_1⟩ := at_T43 (Kd.R_reads' HO_4.out).2.2 x5_1 p140 q140
      cases e140
      replace p140 := eq_true p140
      replace q140 := eq_true q140
      go_wp2_with (first | ((with_reducible refine gate_callee (f := 32) rfl ?_); refine goesL_ (some 19) rfl rfl Try.func32 (by kernel_rfl) rfl #[.int .i64 ((rd_T43 t137 x5_1).f0)] rfl gZ ?_; (with_reducible refine (spec_l09Time.calls ((rd_T43 t137 x5_1).f0) true _ A6.out).mono ?_); rintro e w' ⟨rfl, ⟨nd, rfl⟩⟩; refine ⟨_, rfl, ?_⟩))
      go_roundg k1
      case measure => have := HK1.out; omega
      case rel => exact ⟨(wrap64 (x5_1 + 1)), sZ, H', ⟨by have := HK1.out; omega⟩, ⟨Kd.rZ HO_4.out⟩, ⟨bZ⟩⟩
     ·replace c7 := Bool.eq_false_iff.mpr c7
      subst c7
      have H1 : (some (([] : List (S43)), 6)) = some (r1, r2) := by rw [if_neg (show ¬ (false = true) by decide)] at H; exact H
      clear H
      have H := H1
      clear H1
      simp only [Option.some.injEq, Prod.mk.injEq] at H
      obtain ⟨rfl, rfl⟩ := H
      obtain ⟨Ao9, co9, eo9⟩ := Kd.R_slice HO_4.out
      subst eo9
      have p140 : 0 ≤ (x5_1 : Int) := oZ
      have q140 : x5_1 < (t137.length : Int) := oZ
      obtain ⟨ad140, e140, hx140_0, hx140_1⟩ := at_T43 (Kd.R_reads' HO_4.out).2.2 x5_1 p140 q140
      cases e140
      replace p140 := eq_true p140
      replace q140 := eq_true q140
      go_wp2_with (first | ((with_reducible refine gate_callee (f := 32) rfl ?_); refine goesL_ (some 19) rfl rfl Try.func32 (by kernel_rfl) rfl #[.int .i64 ((rd_T43 t137 x5_1).f0)] rfl gZ ?_; (with_reducible refine (spec_l09Time.calls ((rd_T43 t137 x5_1).f0) false _ A6.out).mono ?_); rintro e w' ⟨rfl, ⟨nd, rfl⟩⟩; refine ⟨_, rfl, ?_⟩))
      go_ret2
      exact ⟨_, eZ, by first | exact Kd.R_nil _ _ _ _ _ | exact Kd.N_nil _ _ _ _ _ | exact Kd.V_nil _ _ _ _ _ | exact Kd.Q_nil _ _ _ _ _ | exact Kd.S_nil _ _ _ _ _, bZ⟩
    ·rw [if_neg c5] at H
     exact absurd H (by simp)
   ·rw [if_neg c4] at H
    have c4b0 : decide (x5_1 < (t137.length : Int)) = false := decide_eq_false c4
    clear c4
    by_cases c10 : (t137.length : Int) > 24
    ·rw [if_pos c10] at H
     have c10b0 : decide (24 < (t137.length : Int)) = true := decide_eq_true c10
     have c10b1 : decide (24 < t137.length) = true := decide_eq_true (by omega)
     clear c10
     simp only [Option.some.injEq, Prod.mk.injEq] at H
     obtain ⟨rfl, rfl⟩ := H
     obtain ⟨Ao11, co11, eo11⟩ := Kd.R_slice HO_4.out
     subst eo11
     go_wp2
     go_ret2
     exact ⟨_, eZ, by first | exact Kd.R_nil _ _ _ _ _ | exact Kd.N_nil _ _ _ _ _ | exact Kd.V_nil _ _ _ _ _ | exact Kd.Q_nil _ _ _ _ _ | exact Kd.S_nil _ _ _ _ _, bZ⟩
    ·rw [if_neg c10] at H
     have c10b0 : decide (24 < (t137.length : Int)) = false := decide_eq_false c10
     have c10b1 : decide (24 < t137.length) = false := decide_eq_false (by omega)
     clear c10
     simp only [Option.some.injEq, Prod.mk.injEq] at H
     obtain ⟨rfl, rfl⟩ := H
     obtain ⟨Ao12, co12, eo12⟩ := Kd.R_slice HO_4.out
     subst eo12
     go_wp2
     go_ret2
     exact ⟨_, eZ, Kd.rZ HO_4.out, bZ⟩
end Go.Proofs.Ytahadhldokhifaa.XP
end

section
namespace Go.Proofs.Ytahadhldokhifaa.XP
open Go.RowKit Go.Proofs.YtahadhldokhifaaW.PrintWords Go.Proofs.YtahadhldokhifaaW.PrintLast Go.Proofs.YtahadhldokhifaaW.PrintMore
attribute [local go_sem] run_eql_slice_nil binOp_string_gtr' binOp_string_leq' binOp_string_geq' max2_int min2_int max_two min_two max_three min_three max_four min_four   -- for this text's walks alone
set_option linter.unusedVariables false
set_option linter.unusedSimpArgs false
mutual
def spec_l09Late.j0 : Nat → List (S43) → Int → List (S43) → Option ((List (S43)))
 | 0, _, _, _ => none
 | k + 1, x0, x1, x7 => spec_l09Late.l0 k x0 x1 x7 0
def spec_l09Late.l0 : Nat → List (S43) → Int → List (S43) → Int → Option ((List (S43)))
 | 0, _, _, _, _ => none
 | k + 1, x0, x1, x7, x8 => if x8 < (x0.length : Int) then (if 0 ≤ x8 then (if x7.length < 8796093022208 then (spec_l09Late.l0 k x0 x1 (x7 ++ [(⟨wrap64 (((rd_T43 x0 x8).f0) + x1), (rd_T43 x0 x8).f1⟩ : S43)]) (wrap64 (x8 + 1))) else (none)) else (none)) else (some x7)
end
def spec_l09Late.f (k : Nat) (l0 : List (S43)) (a1 : Int) (a2 : Int) : Option ((List (S43))) := (some (([] : List (S43)) : List (S43))).bind fun y142 => (if a1 > 0 then (if y142.length < 8796093022208 then (spec_l09Late.j0 k l0 a1 (y142 ++ [(⟨0, a2⟩ : S43)])) else (none)) else (spec_l09Late.j0 k l0 a1 y142))
def spec_l09Late.T7 : Bool × List (List Nat × List Nat) := (true, [([], []), ([], []), ([], []), ([1, 2], [1, 2]), ([3], [3]), ([4], [4]), ([], []), ([5, 6], [5, 6]), ([], []), ([], []), ([8, 9], [8, 9]), ([10], [10]), ([11], [11]), ([7, 12], [7, 12]), ([13], [13]), ([0, 14], [0, 14]), ([15, 15, 0, 1, 2, 3, 4, 5, 6, 7, 8, 9, 10, 11, 12, 13, 14, 15], [0, 15])])
def spec_l09Late.B7 : List Nat := [0, 0, 0, 6, 14, 30, 0, 126, 0, 0, 768, 1792, 3840, 8190, 16382, 32767, 65535]
theorem spec_l09Late.tab7 : rtab .any (opsOf Try.f34 7) = spec_l09Late.T7 := by kernel_rfl
theorem spec_l09Late.bits7 : waitsOk spec_l09Late.T7.2 spec_l09Late.B7 = true := by kernel_rfl
set_option maxHeartbeats 8000000 in
set_option maxRecDepth 100000 in
theorem spec_l09Late.calls (k : Nat) (A0 : Option Addr) (c0 : Nat) (l0 : List (S43)) (a1 : Int) (a2 : Int) (r : List (S43)) (w : World) (hr0 : Kd.C k43 w A0 l0.length l0) (hc0 : l0.length ≤ c0) (h : spec_l09Late.f k l0 a1 a2 = some r) :
  Calls Try.prog 34 #[.slice A0 l0.length c0, .int .i64 a1, .int .i64 a2] w fun e w' => ∃ v0_ : Value, e = .returned (v0_) ∧ Kd.R k43 43 w' w.heap.size (fun _ => True) v0_ r ∧ Below w.heap.size w w' := by
 have hu43 := Try.underlying43
 have HR0 := Aside0.mk hr0
 have HC0 := Aside0.mk hc0
 clear hr0 hc0
 have HB := Aside0.mk (Below.refl w.heap.size w)
 have H : ((some (([] : List (S43)) : List (S43))).bind fun y142 => (if a1 > 0 then (if y142.length < 8796093022208 then (spec_l09Late.j0 k l0 a1 (y142 ++ [(⟨0, a2⟩ : S43)])) else (none)) else (spec_l09Late.j0 k l0 a1 y142))) = some r := h
 clear h
 obtain ⟨y142, hy142⟩ : ∃ y_ : List (S43), y_ = (([] : List (S43))) := ⟨_, rfl⟩
 replace H : (if a1 > 0 then (if y142.length < 8796093022208 then (spec_l09Late.j0 k l0 a1 (y142 ++ [(⟨0, a2⟩ : S43)])) else (none)) else (spec_l09Late.j0 k l0 a1 y142)) = some r := by first | (rw [hy142]; with_reducible exact H) | (have H2_ := (Option.bind_some _ _).symm.trans H; rw [hy142]; with_reducible exact H2_) | (have H2_ := (Option.bind_some _ _).symm.trans H; with_reducible exact H2_) | with_reducible exact H | (rw [hy142]; exact H) | exact H
 have Ny142 := Aside0.mk hy142
 clear hy142
 have HC4 := Aside0.mk H
 clear H
 go_enter Try.func34, Try.ntmps34
 go_upto_if 11 with (first | ((with_reducible refine gate_dst (N := 9) rfl ?_); refine Kd.R_lit k43 _ 43 ?hg (N := 9) ?hd (xs := ([] : List (S43))) (inner := []) (ok := fun _ => True) (okp := fun _ => True) ?hr ?hp (fun _ hk => hk) trivial (Below.refl _ _) (Nat.le_refl _) (by simp) ?_; (case hd => rfl); (case hg => rfl); (case hr => first | (go_simp; done) | (go_simp; rfl)); (case hp => exact (Reps.none _ _)); intro v143 w5 ho6 hb hg_ hnew_; clear hg_ hnew_; (first | rw [← Ny142.out] at ho6 | (simp only [Int.reduceToNat] at ho6; rw [← Ny142.out] at ho6)); have n0_ := Aside0.mk (Kd.R_lower ho6 bsZ); have n1_ := Aside0.mk (below_step bZ hb); clear HB; have HO144 := n0_; have HB := n1_; clear n0_ n1_; clear hb ho6))
 (try simp only [Act.put, List.setIfInBounds_toArray, List.set_cons_zero, List.set_cons_succ])
 go_cut [7] (fun v7 wc => ∃ (kq : Nat) (x7_3 : List (S43)), Aside0 (spec_l09Late.j0 kq l0 a1 x7_3 = some r) ∧ Aside0 (kq ≤ k) ∧ Aside0 (Kd.R k43 43 wc w.heap.size (fun _ => True) v7 x7_3) ∧ Aside0 (Below w.heap.size w wc))
 case first =>
  have H := HC4.out
  clear HC4
  by_cases c7 : a1 > 0
  ·rw [if_pos c7] at H
   have c7b0 : decide (0 < a1) = true := decide_eq_true c7
   clear c7
   (first | rw [c7b0] | (simp only [i64_w, i32_w]; rw [c7b0]) | skip)
   by_cases c8 : y142.length < 8796093022208
   ·rw [if_pos c8] at H
    have LMc8 := Aside0.mk c8
    clear c8
    obtain ⟨y145, hy145⟩ : ∃ y_ : List (S43), y_ = (y142 ++ [(⟨0, a2⟩ : S43)]) := ⟨_, rfl⟩
    replace H : (spec_l09Late.j0 k l0 a1 y145) = some r := by first | (rw [hy145]; with_reducible exact H) | (have H2_ := (Option.bind_some _ _).symm.trans H; rw [hy145]; with_reducible exact H2_) | (have H2_ := (Option.bind_some _ _).symm.trans H; with_reducible exact H2_) | with_reducible exact H | (rw [hy145]; exact H) | exact H
    have Ny145 := Aside0.mk hy145
    clear hy145
    have H' := Aside0.mk H
    clear H
    go_wp2_with (first | ((with_reducible refine gate_builtin (b := .append) (xs := #[.tmp 12, .tmp 15]) rfl ?_); at_builtin; refine Kd.R_append k43 (w0 := w) w.heap.size rfl (.tmp 12) (.tmp 15) 27 43 (.agg #[(.int .i64 0), (.int .i64 0)]) 16 rfl Try.underlying27 info43 rfl (by decide) (by omega) v143 y142 (⟨0, a2⟩ : S43) [.int .i64 0, .int .i64 a2] (fun _ => True) (fun _ => False) rfl rfl ?aP (fun _ hk => hk.elim) ?aF ?aO ?aB ?aS ?aL ?_; (case aP => exact k43_mkM _ _ _ (⟨0, a2⟩ : S43)); (case aB => exact bZ); (case aF => exact (fun _ _ => trivial)); (case aO => exact (Kd.rZ HO144.out)); (case aS => exact bsZ); (case aL => have := LMc8.out; omega); intro v146 w9 ho hb hg hat; rw [← Ny145.out] at ho; have n0_ := Aside0.mk (hb); have n1_ := Aside0.mk (ho); clear HB; clear HO144; have HB := n0_; have HO147 := n1_; clear n0_ n1_; clear ho hb hg hat))
    go_meet
    case rel => exact ⟨_, (y145), H', ⟨by first | omega | exact Nat.le_refl _⟩, ⟨Kd.rZ HO147.out⟩, ⟨bZ⟩⟩
   ·rw [if_neg c8] at H
    exact absurd H (by simp)
  ·rw [if_neg c7] at H
   have c7b0 : decide (0 < a1) = false := decide_eq_false c7
   clear c7
   (first | rw [c7b0] | (simp only [i64_w, i32_w]; rw [c7b0]) | skip)
   have H' := Aside0.mk H
   clear H
   go_wp2
   go_meet
   case rel => exact ⟨_, (y142), H', ⟨by first | omega | exact Nat.le_refl _⟩, ⟨Kd.rZ HO144.out⟩, ⟨bZ⟩⟩
 case rest =>
  clear HC4; (try clear p2); (try clear c3); (try clear c7); (try clear c7b0); (try clear c8)
  obtain ⟨kq, x7_3, HA, HJ3, HO_7, HB⟩ := hcut
  cases kq with
  | zero => exact absurd HA.out (by simp [spec_l09Late.j0])
  | succ kj3 =>
   have H := HA.out
   clear HA
   simp only [spec_l09Late.j0] at H
   have H' := Aside0.mk H
   clear H
   go_wp2
   go_loopg [7, 8] kj3 (fun kq v7 v8 w' => ∃ (x7_2 : List (S43)) (x8_2 : Int), v8 = .int .i64 x8_2 ∧ Aside0 (spec_l09Late.l0 kq l0 a1 x7_2 x8_2 = some r) ∧ Aside0 (kq ≤ kj3) ∧ Aside0 (Kd.R k43 43 w' w.heap.size (fun _ => True) v7 x7_2) ∧ Aside0 (Below w.heap.size w w'))
   case atStart => exact ⟨(x7_3), (0), sZ, H', ⟨Nat.le_refl _⟩, ⟨Kd.rZ HO_7.out⟩, ⟨bZ⟩⟩
   case round =>
    clear H'; (try clear p2); (try clear c3); (try clear c7); (try clear c7b0); (try clear c8); (try clear p2)
    obtain ⟨x7_2, x8_2, rfl, HA, HK2, HO_7, HB⟩ := hrel
    cases gk with
    | zero => exact absurd HA.out (by simp [spec_l09Late.l0])
    | succ k2 =>
     have H := HA.out
     clear HA
     simp only [spec_l09Late.l0] at H
     by_cases c10 : x8_2 < (l0.length : Int)
     ·rw [if_pos c10] at H
      have c10b0 : decide (x8_2 < (l0.length : Int)) = true := decide_eq_true c10
      clear c10
      by_cases c11 : 0 ≤ x8_2
      ·rw [if_pos c11] at H
       have c11b0 : decide (0 ≤ x8_2) = true := decide_eq_true c11
       clear c11
       by_cases c12 : x7_2.length < 8796093022208
       ·rw [if_pos c12] at H
        have LMc12 := Aside0.mk c12
        clear c12
        obtain ⟨y150, hy150⟩ : ∃ y_ : List (S43), y_ = (x7_2 ++ [(⟨wrap64 (((rd_T43 l0 x8_2).f0) + a1), (rd_T43 l0 x8_2).f1⟩ : S43)]) := ⟨_, rfl⟩
        replace H : (spec_l09Late.l0 k2 l0 a1 y150 (wrap64 (x8_2 + 1))) = some r := by first | (rw [hy150]; with_reducible exact H) | (have H2_ := (Option.bind_some _ _).symm.trans H; rw [hy150]; with_reducible exact H2_) | (have H2_ := (Option.bind_some _ _).symm.trans H; with_reducible exact H2_) | with_reducible exact H | (rw [hy150]; exact H) | exact H
        have Ny150 := Aside0.mk hy150
        clear hy150
        have H' := Aside0.mk H
        clear H
        try go_wp2
        have n0_ := Aside0.mk (Kd.R_drew HO_7.out)
        have n1_ := Aside0.mk (below_drew1 HB.out)
        clear HO_7; clear HB
        have HO_7 := n0_
        have HB := n1_
        clear n0_ n1_
        have p148 : 0 ≤ (x8_2 : Int) := oZ
        have q148 : x8_2 < (l0.length : Int) := oZ
        obtain ⟨ad148, e148, hx148_0, hx148_1⟩ := at_T43 HR0.out x8_2 p148 q148
        have hw148_1 := hx148_1
        have hw148_0 := hx148_0
        cases e148
        replace hx148_0 := (HB.out.cell (World.block_lt_of_cell? w _ hx148_0)).trans hx148_0
        replace hx148_1 := (HB.out.cell (World.block_lt_of_cell? w _ hx148_1)).trans hx148_1
        replace p148 := eq_true p148
        replace q148 := eq_true q148
        have p149 : 0 ≤ (x8_2 : Int) := oZ
        have q149 : x8_2 < (l0.length : Int) := oZ
        obtain ⟨ad149, e149, hx149_0, hx149_1⟩ := at_T43 HR0.out x8_2 p149 q149
        have hw149_1 := hx149_1
        have hw149_0 := hx149_0
        obtain rfl : ad148 = ad149 := (by injection e149)
        replace hx149_0 := (HB.out.cell (World.block_lt_of_cell? w _ hx149_0)).trans hx149_0
        replace hx149_1 := (HB.out.cell (World.block_lt_of_cell? w _ hx149_1)).trans hx149_1
        replace p149 := eq_true p149
        replace q149 := eq_true q149
        refine start_ (n := 17) (S := fun w' => w'.cell? (ad148.add ((x8_2).toNat * 2)) = some (.int .i64 ((rd_T43 l0 x8_2).f0)) ∧ w'.cell? ⟨(ad148.add ((x8_2).toNat * 2)).block, (ad148.add ((x8_2).toNat * 2)).off + 1, none⟩ = some (.int .i64 ((rd_T43 l0 x8_2).f1)) ∧ w'.cell? (ad148.add ((x8_2).toNat * 2)) = some (.int .i64 ((rd_T43 l0 x8_2).f0)) ∧ w'.cell? ⟨(ad148.add ((x8_2).toNat * 2)).block, (ad148.add ((x8_2).toNat * 2)).off + 1, none⟩ = some (.int .i64 ((rd_T43 l0 x8_2).f1))) (ds := []) #[false, false, false, false, false, false, false, false, false, false, false, false, false, false, false, false, false] (by kernel_rfl) rfl rfl ⟨((HB.out.cell (World.block_lt_of_cell? w _ hw148_0)).trans hw148_0), ((HB.out.cell (World.block_lt_of_cell? w _ hw148_1)).trans hw148_1), ((HB.out.cell (World.block_lt_of_cell? w _ hw149_0)).trans hw149_0), ((HB.out.cell (World.block_lt_of_cell? w _ hw149_1)).trans hw149_1)⟩ (fun hHeld => ?_); refine with_tabW spec_l09Late.tab7 spec_l09Late.bits7 (fun HT_ HW_ => ?_)
        generalize wr.drew = w13 at HO_7 HB hx148_0 hx148_1 hx149_0 hx149_1 hHeld ⊢
        refine puZ 0 (some 23) #[true, false, false, false, false, false, false, false, false, false, false, false, false, false, false, false, false] rfl rfl HT_.out ?_
        refine puZ 1 (some 24) #[true, true, false, false, false, false, false, false, false, false, false, false, false, false, false, false, false] rfl rfl HT_.out ?_
        refine puZ 2 (some 25) #[true, true, true, false, false, false, false, false, false, false, false, false, false, false, false, false, false] rfl rfl HT_.out ?_
        refine puZ 3 (some 26) #[true, true, true, true, false, false, false, false, false, false, false, false, false, false, false, false, false] rfl rfl HT_.out ?_
        refine puZ 4 (some 27) #[true, true, true, true, true, false, false, false, false, false, false, false, false, false, false, false, false] rfl rfl HT_.out ?_
        refine puZ 6 (some 29) #[true, true, true, true, true, false, true, false, false, false, false, false, false, false, false, false, false] rfl rfl HT_.out ?_
        refine puZ 8 (some 31) #[true, true, true, true, true, false, true, false, true, false, false, false, false, false, false, false, false] rfl rfl HT_.out ?_
        refine puZ 9 (some 32) #[true, true, true, true, true, false, true, false, true, true, false, false, false, false, false, false, false] rfl rfl HT_.out ?_
        refine puZ 10 (some 33) #[true, true, true, true, true, false, true, false, true, true, true, false, false, false, false, false, false] rfl rfl HT_.out ?_
        refine puZ 11 (some 34) #[true, true, true, true, true, false, true, false, true, true, true, true, false, false, false, false, false] rfl rfl HT_.out ?_
        refine take_ (i := 5) (N := some 28) (v := ?_) (a' := ?_) #[true, true, true, true, true, true, true, false, true, true, true, true, false, false, false, false, false] rfl rfl (take_ofW HT_.out HW_.out (by kernel_rfl)) (fun _ _ _ h => h) (Or.inl ⟨by rfl, ?_⟩) hHeld ?_ ?_
        rotate_left
        ·rintro w' ⟨s0, s1, s2, s3⟩
         go_simp
         with_reducible rfl
        rotate_left
        ·simp only [Act.put, List.setIfInBounds_toArray, List.set_cons_zero, List.set_cons_succ, i64_w, i32_w]
         rfl
        refine puZ 7 (some 30) #[true, true, true, true, true, true, true, true, true, true, true, true, false, false, false, false, false] rfl rfl HT_.out ?_
        refine take_ (i := 12) (N := some 35) (v := ?_) (a' := ?_) #[true, true, true, true, true, true, true, true, true, true, true, true, true, false, false, false, false] rfl rfl (take_ofW HT_.out HW_.out (by kernel_rfl)) (fun _ _ _ h => h) (Or.inl ⟨by rfl, ?_⟩) hHeld ?_ ?_
        rotate_left
        ·rintro w' ⟨s0, s1, s2, s3⟩
         go_simp
         with_reducible rfl
        rotate_left
        ·simp only [Act.put, List.setIfInBounds_toArray, List.set_cons_zero, List.set_cons_succ, i64_w, i32_w]
         rfl
        refine puZ 13 (some 36) #[true, true, true, true, true, true, true, true, true, true, true, true, true, true, false, false, false] rfl rfl HT_.out ?_
        refine one_ (i := 14) (N := some 37) #[true, true, true, true, true, true, true, true, true, true, true, true, true, true, true, false, false] rfl rfl (one_of HT_.out (by kernel_rfl)) (by decide) (fun K hK => ?_)
        refine value_ (w1 := ?_) (v := ?_) (by rfl) rfl ?_ ?_
        rotate_left 2
        ·go_simp
         constructor
         ·rfl
         ·rfl
        refine hK.out _ _ ⟨(World.cell?_alloc_lt _ _ _ (World.block_lt_of_cell? _ _ (((HB.out.cell (World.block_lt_of_cell? w _ hw148_0)).trans hw148_0)))).trans (((HB.out.cell (World.block_lt_of_cell? w _ hw148_0)).trans hw148_0)), (World.cell?_alloc_lt _ _ _ (World.block_lt_of_cell? _ _ (((HB.out.cell (World.block_lt_of_cell? w _ hw148_1)).trans hw148_1)))).trans (((HB.out.cell (World.block_lt_of_cell? w _ hw148_1)).trans hw148_1)), (World.cell?_alloc_lt _ _ _ (World.block_lt_of_cell? _ _ (((HB.out.cell (World.block_lt_of_cell? w _ hw149_0)).trans hw149_0)))).trans (((HB.out.cell (World.block_lt_of_cell? w _ hw149_0)).trans hw149_0)), (World.cell?_alloc_lt _ _ _ (World.block_lt_of_cell? _ _ (((HB.out.cell (World.block_lt_of_cell? w _ hw149_1)).trans hw149_1)))).trans (((HB.out.cell (World.block_lt_of_cell? w _ hw149_1)).trans hw149_1))⟩ (fun hHeld => ?_)
        clear hK K
        refine norm_ (a' := ?_) ?_ ?_
        rotate_left
        ·show Act.put _ (some 37) _ = _
         simp only [Act.put, List.setIfInBounds_toArray, List.set_cons_zero, List.set_cons_succ, i64_w, i32_w]
         rfl
        refine one_ (i := 15) (N := some 38) #[true, true, true, true, true, true, true, true, true, true, true, true, true, true, true, true, false] rfl rfl (one_of HT_.out (by kernel_rfl)) (by decide) (fun K hK => ?_)
        refine Kd.R_append_step k43 (w0 := w) w.heap.size (by rfl) (.tmp 23) (.tmp 37) 27 43 (.agg #[(.int .i64 0), (.int .i64 0)]) 16 rfl Try.underlying27 info43 rfl (by decide) (by omega) u7 x7_2 (⟨wrap64 (((rd_T43 l0 x8_2).f0) + a1), (rd_T43 l0 x8_2).f1⟩ : S43) [.int .i64 (wrap64 (((rd_T43 l0 x8_2).f0) + a1)), .int .i64 ((rd_T43 l0 x8_2).f1)] (fun _ => True) (fun _ => False) rfl rfl ?aP (fun _ hk => hk.elim) ?aF ?aO ?aB ?aS ?aL ?_
        (case aP => exact k43_mkM _ _ _ (⟨wrap64 (((rd_T43 l0 x8_2).f0) + a1), (rd_T43 l0 x8_2).f1⟩ : S43))
        (case aB => exact bZ)
        (case aF => exact (fun _ _ => trivial))
        (case aO => exact (Kd.rZ HO_7.out))
        (case aS => exact bsZ)
        (case aL => have := LMc12.out; omega)
        intro v151 w14 ho hb hg hat
        rw [← Ny150.out] at ho
        have n0_ := Aside0.mk (hb)
        have n1_ := Aside0.mk (ho)
        clear HB; clear HO_7
        have HB := n0_
        have HO152 := n1_
        clear n0_ n1_
        clear ho hb hg hat
        refine hK.out _ _ ⟨((HB.out.cell (World.block_lt_of_cell? w _ hw148_0)).trans hw148_0), ((HB.out.cell (World.block_lt_of_cell? w _ hw148_1)).trans hw148_1), ((HB.out.cell (World.block_lt_of_cell? w _ hw149_0)).trans hw149_0), ((HB.out.cell (World.block_lt_of_cell? w _ hw149_1)).trans hw149_1)⟩ (fun hHeld => ?_)
        clear hK K
        refine norm_ (a' := ?_) ?_ ?_
        rotate_left
        ·show Act.put _ (some 38) _ = _
         simp only [Act.put, List.setIfInBounds_toArray, List.set_cons_zero, List.set_cons_succ, i64_w, i32_w]
         rfl
        refine puZ 16 (some 7) #[true, true, true, true, true, true, true, true, true, true, true, true, true, true, true, true, true] rfl rfl HT_.out ?_
        refine done_ (done_of HT_.out (by kernel_rfl)) ?_
        try go_wp2
        go_roundg k2
        case measure => have := HJ3.out; have := HK2.out; omega
        case rel => exact ⟨(y150), (wrap64 (x8_2 + 1)), sZ, H', ⟨by have := HJ3.out; have := HK2.out; omega⟩, ⟨Kd.rZ HO152.out⟩, ⟨bZ⟩⟩
       ·rw [if_neg c12] at H
        exact absurd H (by simp)
      ·rw [if_neg c11] at H
       exact absurd H (by simp)
     ·rw [if_neg c10] at H
      have c10b0 : decide (x8_2 < (l0.length : Int)) = false := decide_eq_false c10
      clear c10
      obtain rfl := Option.some.inj H
      go_wp2
      go_ret
      exact ⟨_, eZ, Kd.rZ HO_7.out, bZ⟩
end Go.Proofs.Ytahadhldokhifaa.XP
end

section
namespace Go.Proofs.Ytahadhldokhifaa.XP
open Go.RowKit Go.Proofs.YtahadhldokhifaaW.PrintWords Go.Proofs.YtahadhldokhifaaW.PrintLast Go.Proofs.YtahadhldokhifaaW.PrintMore
attribute [local go_sem] run_eql_slice_nil binOp_string_gtr' binOp_string_leq' binOp_string_geq' max2_int min2_int max_two min_two max_three min_three max_four min_four   -- for this text's walks alone
set_option linter.unusedVariables false
set_option linter.unusedSimpArgs false
def spec_l01Div.f (a0 : Int) (a1 : Int) : Option (Int) := if a1 < 0 then (if (wrap64 (-a0)) < 0 then (if (wrap64 (2 * (wrap64 (-a1)))) = 0 then (none) else (some (wrap64 (-(wrap64 (Int.tdiv (wrap64 ((wrap64 (-a1)) - (wrap64 (2 * (wrap64 (-a0)))))) (wrap64 (2 * (wrap64 (-a1)))))))))) else (if (wrap64 (2 * (wrap64 (-a1)))) = 0 then (none) else (some (wrap64 (Int.tdiv (wrap64 ((wrap64 (2 * (wrap64 (-a0)))) + (wrap64 (-a1)))) (wrap64 (2 * (wrap64 (-a1))))))))) else (if a0 < 0 then (if (wrap64 (2 * a1)) = 0 then (none) else (some (wrap64 (-(wrap64 (Int.tdiv (wrap64 (a1 - (wrap64 (2 * a0)))) (wrap64 (2 * a1)))))))) else (if (wrap64 (2 * a1)) = 0 then (none) else (some (wrap64 (Int.tdiv (wrap64 ((wrap64 (2 * a0)) + a1)) (wrap64 (2 * a1)))))))
set_option maxHeartbeats 8000000 in
set_option maxRecDepth 100000 in
theorem spec_l01Div.calls (a0 : Int) (a1 : Int) (r : Int) (w : World) (h : spec_l01Div.f a0 a1 = some r) :
  Calls Try.prog 54 #[.int .i64 a0, .int .i64 a1] w fun e w' => e = .returned (.int .i64 r) ∧ Drawn0 w w' := by
 have H : (if a1 < 0 then (if (wrap64 (-a0)) < 0 then (if (wrap64 (2 * (wrap64 (-a1)))) = 0 then (none) else (some (wrap64 (-(wrap64 (Int.tdiv (wrap64 ((wrap64 (-a1)) - (wrap64 (2 * (wrap64 (-a0)))))) (wrap64 (2 * (wrap64 (-a1)))))))))) else (if (wrap64 (2 * (wrap64 (-a1)))) = 0 then (none) else (some (wrap64 (Int.tdiv (wrap64 ((wrap64 (2 * (wrap64 (-a0)))) + (wrap64 (-a1)))) (wrap64 (2 * (wrap64 (-a1))))))))) else (if a0 < 0 then (if (wrap64 (2 * a1)) = 0 then (none) else (some (wrap64 (-(wrap64 (Int.tdiv (wrap64 (a1 - (wrap64 (2 * a0)))) (wrap64 (2 * a1)))))))) else (if (wrap64 (2 * a1)) = 0 then (none) else (some (wrap64 (Int.tdiv (wrap64 ((wrap64 (2 * a0)) + a1)) (wrap64 (2 * a1)))))))) = some r := h
 clear h
 by_cases c3 : a1 < 0
 ·rw [if_pos c3] at H
  have c3b0 : decide (a1 < 0) = true := decide_eq_true c3
  clear c3
  by_cases c4 : (wrap64 (-a0)) < 0
  ·rw [if_pos c4] at H
   have c4b0 : decide ((wrap64 (-a0)) < 0) = true := decide_eq_true c4
   clear c4
   by_cases c5 : (wrap64 (2 * (wrap64 (-a1)))) = 0
   ·rw [if_pos c5] at H
    exact absurd H (by simp)
   ·rw [if_neg c5] at H
    have c5b0 : ((wrap64 (2 * (wrap64 (-a1)))) == 0) = false := beq_eq_false_iff_ne.mpr c5
    have c5b1 : ((wrap64 (2 * (wrap64 (-a1)))) != 0) = true := bne_iff_ne.mpr c5
    obtain rfl := Option.some.inj H
    go_enter Try.func54, Try.ntmps54
    go_wp2
    go_ret
    exact ⟨sZ, dZ⟩
  ·rw [if_neg c4] at H
   have c4b0 : decide ((wrap64 (-a0)) < 0) = false := decide_eq_false c4
   clear c4
   by_cases c6 : (wrap64 (2 * (wrap64 (-a1)))) = 0
   ·rw [if_pos c6] at H
    exact absurd H (by simp)
   ·rw [if_neg c6] at H
    have c6b0 : ((wrap64 (2 * (wrap64 (-a1)))) == 0) = false := beq_eq_false_iff_ne.mpr c6
    have c6b1 : ((wrap64 (2 * (wrap64 (-a1)))) != 0) = true := bne_iff_ne.mpr c6
    obtain rfl := Option.some.inj H
    go_enter Try.func54, Try.ntmps54
    go_wp2
    go_ret
    exact ⟨sZ, dZ⟩
 ·rw [if_neg c3] at H
  have c3b0 : decide (a1 < 0) = false := decide_eq_false c3
  clear c3
  by_cases c7 : a0 < 0
  ·rw [if_pos c7] at H
   have c7b0 : decide (a0 < 0) = true := decide_eq_true c7
   clear c7
   by_cases c8 : (wrap64 (2 * a1)) = 0
   ·rw [if_pos c8] at H
    exact absurd H (by simp)
   ·rw [if_neg c8] at H
    have c8b0 : ((wrap64 (2 * a1)) == 0) = false := beq_eq_false_iff_ne.mpr c8
    have c8b1 : ((wrap64 (2 * a1)) != 0) = true := bne_iff_ne.mpr c8
    obtain rfl := Option.some.inj H
    go_enter Try.func54, Try.ntmps54
    go_wp2
    go_ret
    exact ⟨sZ, dZ⟩
  ·rw [if_neg c7] at H
   have c7b0 : decide (a0 < 0) = false := decide_eq_false c7
   clear c7
   by_cases c9 : (wrap64 (2 * a1)) = 0
   ·rw [if_pos c9] at H
    exact absurd H (by simp)
   ·rw [if_neg c9] at H
    have c9b0 : ((wrap64 (2 * a1)) == 0) = false := beq_eq_false_iff_ne.mpr c9
    have c9b1 : ((wrap64 (2 * a1)) != 0) = true := bne_iff_ne.mpr c9
    obtain rfl := Option.some.inj H
    go_enter Try.func54, Try.ntmps54
    go_wp2
    go_ret
    exact ⟨sZ, dZ⟩
def spec_l03Water.f (a0_0 : ByteArray) (a0_1 : Int) (a0_2 : Int) (a0_3 : Int) (a0_4 : Int) (a0_5 : Int) : Option (Int) := (spec_l01Div.f (wrap64 ((wrap64 ((wrap64 (a0_3 * a0_4)) * a0_4)) * 7854)) 10000).bind fun t153 => (some t153)
set_option maxHeartbeats 8000000 in
set_option maxRecDepth 100000 in
theorem spec_l03Water.calls (v0 : Addr) (a0_0 : ByteArray) (a0_1 : Int) (a0_2 : Int) (a0_3 : Int) (a0_4 : Int) (a0_5 : Int) (r : Int) (w : World) (hv0 : ViewAt w v0 [.string a0_0, .int .i64 a0_1, .int .i64 a0_2, .int .i64 a0_3, .int .i64 a0_4, .int .i64 a0_5]) (h : spec_l03Water.f a0_0 a0_1 a0_2 a0_3 a0_4 a0_5 = some r) :
  Calls Try.prog 52 #[.pointer (some v0)] w fun e w' => e = .returned (.int .i64 r) ∧ Drawn0 w w' := by
 have HV0 := Aside0.mk hv0
 have hvw0_0 : w.cell? v0 = some (.string a0_0) := hv0.at0
 have hvw0_1 : w.cell? ⟨v0.block, v0.off + 1, none⟩ = some (.int .i64 a0_1) := hv0.at_ 1 (by decide) rfl
 have hvw0_2 : w.cell? ⟨v0.block, v0.off + 2, none⟩ = some (.int .i64 a0_2) := hv0.at_ 2 (by decide) rfl
 have hvw0_3 : w.cell? ⟨v0.block, v0.off + 3, none⟩ = some (.int .i64 a0_3) := hv0.at_ 3 (by decide) rfl
 have hvw0_4 : w.cell? ⟨v0.block, v0.off + 4, none⟩ = some (.int .i64 a0_4) := hv0.at_ 4 (by decide) rfl
 have hvw0_5 : w.cell? ⟨v0.block, v0.off + 5, none⟩ = some (.int .i64 a0_5) := hv0.at_ 5 (by decide) rfl
 clear hv0
 have H : ((spec_l01Div.f (wrap64 ((wrap64 ((wrap64 (a0_3 * a0_4)) * a0_4)) * 7854)) 10000).bind fun t153 => (some t153)) = some r := h
 clear h
 replace H := Option.bind_eq_some_iff.mp H
 obtain ⟨t153, A20, H⟩ := H
 replace H : (some t153) = some r := H
 have A2 := Aside0.mk A20
 clear A20
 obtain rfl := Option.some.inj H
 go_enter Try.func52, Try.ntmps52
 go_wp2_with (first | (go_at_call 54; (with_reducible refine (spec_l01Div.calls (wrap64 ((wrap64 ((wrap64 (a0_3 * a0_4)) * a0_4)) * 7854)) 10000 t153 _ A2.out).mono ?_); rintro e w' ⟨rfl, ⟨nd, rfl⟩⟩; (try first | exact ⟨rfl, _, World.drewN_drewN _ _ _⟩ | exact ⟨rfl, _, Eq.trans (World.drewN_drewN _ _ _) (congrArg (World.drewN _) (Nat.add_assoc _ _ _))⟩)))
 repeat (go_quiet (first | (go_at_call 54; (with_reducible refine (spec_l01Div.calls (wrap64 ((wrap64 ((wrap64 (a0_3 * a0_4)) * a0_4)) * 7854)) 10000 t153 _ A2.out).mono ?_); rintro e w' ⟨rfl, ⟨nd, rfl⟩⟩; (try first | exact ⟨rfl, _, World.drewN_drewN _ _ _⟩ | exact ⟨rfl, _, Eq.trans (World.drewN_drewN _ _ _) (congrArg (World.drewN _) (Nat.add_assoc _ _ _))⟩))); try go_wp2_with (first | (go_at_call 54; (with_reducible refine (spec_l01Div.calls (wrap64 ((wrap64 ((wrap64 (a0_3 * a0_4)) * a0_4)) * 7854)) 10000 t153 _ A2.out).mono ?_); rintro e w' ⟨rfl, ⟨nd, rfl⟩⟩; (try first | exact ⟨rfl, _, World.drewN_drewN _ _ _⟩ | exact ⟨rfl, _, Eq.trans (World.drewN_drewN _ _ _) (congrArg (World.drewN _) (Nat.add_assoc _ _ _))⟩))))
 go_ret
 exact ⟨sZ, dZ⟩
def spec_l00Max.f (a0 : Int) (a1 : Int) : Option (Int) := if a0 > a1 then (some a0) else (some a1)
set_option maxHeartbeats 8000000 in
set_option maxRecDepth 100000 in
theorem spec_l00Max.calls (a0 : Int) (a1 : Int) (r : Int) (w : World) (h : spec_l00Max.f a0 a1 = some r) :
  Calls Try.prog 56 #[.int .i64 a0, .int .i64 a1] w fun e w' => e = .returned (.int .i64 r) ∧ Drawn0 w w' := by
 have H : (if a0 > a1 then (some a0) else (some a1)) = some r := h
 clear h
 by_cases c3 : a0 > a1
 ·rw [if_pos c3] at H
  have c3b0 : decide (a1 < a0) = true := decide_eq_true c3
  clear c3
  obtain rfl := Option.some.inj H
  go_enter Try.func56, Try.ntmps56
  go_wp2
  go_ret
  exact ⟨sZ, dZ⟩
 ·rw [if_neg c3] at H
  have c3b0 : decide (a1 < a0) = false := decide_eq_false c3
  clear c3
  obtain rfl := Option.some.inj H
  go_enter Try.func56, Try.ntmps56
  go_wp2
  go_ret
  exact ⟨sZ, dZ⟩
def spec_l03Abs.f (a0 : Int) : Option (Int) := (spec_l00Max.f a0 (wrap64 (-a0))).bind fun t154 => (some t154)
set_option maxHeartbeats 8000000 in
set_option maxRecDepth 100000 in
theorem spec_l03Abs.calls (a0 : Int) (r : Int) (w : World) (h : spec_l03Abs.f a0 = some r) :
  Calls Try.prog 53 #[.int .i64 a0] w fun e w' => e = .returned (.int .i64 r) ∧ Drawn0 w w' := by
 have H : ((spec_l00Max.f a0 (wrap64 (-a0))).bind fun t154 => (some t154)) = some r := h
 clear h
 replace H := Option.bind_eq_some_iff.mp H
 obtain ⟨t154, A20, H⟩ := H
 replace H : (some t154) = some r := H
 have A2 := Aside0.mk A20
 clear A20
 obtain rfl := Option.some.inj H
 go_enter Try.func53, Try.ntmps53
 go_wp2_with (first | ((with_reducible refine gate_callee (f := 56) rfl ?_); refine goesL_ (some 6) rfl rfl Try.func56 (by kernel_rfl) rfl #[.int .i64 a0, .int .i64 (wrap64 (-a0))] rfl gZ ?_; (with_reducible refine (spec_l00Max.calls a0 (wrap64 (-a0)) t154 _ A2.out).mono ?_); rintro e w' ⟨rfl, ⟨nd, rfl⟩⟩; refine ⟨_, rfl, ?_⟩))
 go_ret
 exact ⟨sZ, dZ⟩
def spec_l03Delay.f (a0_0 : ByteArray) (a0_1 : Int) (a0_2 : Int) (a0_3 : Int) (a0_4 : Int) (a0_5 : Int) (a1 : Int) : Option (Int) := (spec_l03Water.f a0_0 a0_1 a0_2 a0_3 a0_4 a0_5).bind fun t155 => ((spec_l03Abs.f a1).bind fun t156 => ((spec_l03Abs.f a1).bind fun t157 => (if t157 = 0 then (none) else (some (wrap64 (Int.tdiv (wrap64 ((wrap64 (t155 + t156)) - 1)) t157))))))
set_option maxHeartbeats 8000000 in
set_option maxRecDepth 100000 in
theorem spec_l03Delay.calls (v0 : Addr) (a0_0 : ByteArray) (a0_1 : Int) (a0_2 : Int) (a0_3 : Int) (a0_4 : Int) (a0_5 : Int) (a1 : Int) (r : Int) (w : World) (hv0 : ViewAt w v0 [.string a0_0, .int .i64 a0_1, .int .i64 a0_2, .int .i64 a0_3, .int .i64 a0_4, .int .i64 a0_5]) (h : spec_l03Delay.f a0_0 a0_1 a0_2 a0_3 a0_4 a0_5 a1 = some r) :
  Calls Try.prog 35 #[.pointer (some v0), .int .i64 a1] w fun e w' => e = .returned (.int .i64 r) ∧ Drawn0 w w' := by
 have HV0 := Aside0.mk hv0
 have hvw0_0 : w.cell? v0 = some (.string a0_0) := hv0.at0
 have hvw0_1 : w.cell? ⟨v0.block, v0.off + 1, none⟩ = some (.int .i64 a0_1) := hv0.at_ 1 (by decide) rfl
 have hvw0_2 : w.cell? ⟨v0.block, v0.off + 2, none⟩ = some (.int .i64 a0_2) := hv0.at_ 2 (by decide) rfl
 have hvw0_3 : w.cell? ⟨v0.block, v0.off + 3, none⟩ = some (.int .i64 a0_3) := hv0.at_ 3 (by decide) rfl
 have hvw0_4 : w.cell? ⟨v0.block, v0.off + 4, none⟩ = some (.int .i64 a0_4) := hv0.at_ 4 (by decide) rfl
 have hvw0_5 : w.cell? ⟨v0.block, v0.off + 5, none⟩ = some (.int .i64 a0_5) := hv0.at_ 5 (by decide) rfl
 clear hv0
 have H : ((spec_l03Water.f a0_0 a0_1 a0_2 a0_3 a0_4 a0_5).bind fun t155 => ((spec_l03Abs.f a1).bind fun t156 => ((spec_l03Abs.f a1).bind fun t157 => (if t157 = 0 then (none) else (some (wrap64 (Int.tdiv (wrap64 ((wrap64 (t155 + t156)) - 1)) t157))))))) = some r := h
 clear h
 replace H := Option.bind_eq_some_iff.mp H
 obtain ⟨t155, A30, H⟩ := H
 replace H : ((spec_l03Abs.f a1).bind fun t156 => ((spec_l03Abs.f a1).bind fun t157 => (if t157 = 0 then (none) else (some (wrap64 (Int.tdiv (wrap64 ((wrap64 (t155 + t156)) - 1)) t157)))))) = some r := H
 have A3 := Aside0.mk A30
 clear A30
 replace H := Option.bind_eq_some_iff.mp H
 obtain ⟨t156, A40, H⟩ := H
 replace H : ((spec_l03Abs.f a1).bind fun t157 => (if t157 = 0 then (none) else (some (wrap64 (Int.tdiv (wrap64 ((wrap64 (t155 + t156)) - 1)) t157))))) = some r := H
 have A4 := Aside0.mk A40
 clear A40
 replace H := Option.bind_eq_some_iff.mp H
 obtain ⟨t157, A50, H⟩ := H
 replace H : (if t157 = 0 then (none) else (some (wrap64 (Int.tdiv (wrap64 ((wrap64 (t155 + t156)) - 1)) t157)))) = some r := H
 have A5 := Aside0.mk A50
 clear A50
 by_cases c6 : t157 = 0
 ·rw [if_pos c6] at H
  exact absurd H (by simp)
 ·rw [if_neg c6] at H
  have c6b0 : (t157 == 0) = false := beq_eq_false_iff_ne.mpr c6
  have c6b1 : (t157 != 0) = true := bne_iff_ne.mpr c6
  obtain rfl := Option.some.inj H
  go_enter Try.func35, Try.ntmps35
  go_wp2_with (first | ((with_reducible refine gate_callee (f := 52) rfl ?_); refine goesL_ (some 6) rfl rfl Try.func52 (by kernel_rfl) rfl #[.pointer (some v0)] rfl gZ ?_; (with_reducible refine (spec_l03Water.calls _ a0_0 a0_1 a0_2 a0_3 a0_4 a0_5 t155 _ ?side1 A3.out).mono ?_); (case side1 => exact HV0.out); rintro e w' ⟨rfl, ⟨nd, rfl⟩⟩; refine ⟨_, rfl, ?_⟩) | ((with_reducible refine gate_callee (f := 53) rfl ?_); refine goesL_ (some 8) rfl rfl Try.func53 (by kernel_rfl) rfl #[.int .i64 a1] rfl gZ ?_; (with_reducible refine (spec_l03Abs.calls a1 t156 _ A4.out).mono ?_); rintro e w' ⟨rfl, ⟨nd, rfl⟩⟩; refine ⟨_, rfl, ?_⟩) | ((with_reducible refine gate_callee (f := 53) rfl ?_); refine goesL_ (some 12) rfl rfl Try.func53 (by kernel_rfl) rfl #[.int .i64 a1] rfl gZ ?_; (with_reducible refine (spec_l03Abs.calls a1 t157 _ A5.out).mono ?_); rintro e w' ⟨rfl, ⟨nd, rfl⟩⟩; refine ⟨_, rfl, ?_⟩))
  go_ret
  exact ⟨sZ, dZ⟩
def spec_l03Loss.f (a0_0 : ByteArray) (a0_1 : Int) (a0_2 : Int) (a0_3 : Int) (a0_4 : Int) (a0_5 : Int) (a1 : Int) (a2 : Int) : Option (Int) := (spec_l01Div.f (wrap64 ((wrap64 (a0_5 * a0_3)) * (wrap64 (a1 - a2)))) 100000).bind fun t158 => (some t158)
set_option maxHeartbeats 8000000 in
set_option maxRecDepth 100000 in
theorem spec_l03Loss.calls (v0 : Addr) (a0_0 : ByteArray) (a0_1 : Int) (a0_2 : Int) (a0_3 : Int) (a0_4 : Int) (a0_5 : Int) (a1 : Int) (a2 : Int) (r : Int) (w : World) (hv0 : ViewAt w v0 [.string a0_0, .int .i64 a0_1, .int .i64 a0_2, .int .i64 a0_3, .int .i64 a0_4, .int .i64 a0_5]) (h : spec_l03Loss.f a0_0 a0_1 a0_2 a0_3 a0_4 a0_5 a1 a2 = some r) :
  Calls Try.prog 55 #[.pointer (some v0), .int .i64 a1, .int .i64 a2] w fun e w' => e = .returned (.int .i64 r) ∧ Drawn0 w w' := by
 have HV0 := Aside0.mk hv0
 have hvw0_0 : w.cell? v0 = some (.string a0_0) := hv0.at0
 have hvw0_1 : w.cell? ⟨v0.block, v0.off + 1, none⟩ = some (.int .i64 a0_1) := hv0.at_ 1 (by decide) rfl
 have hvw0_2 : w.cell? ⟨v0.block, v0.off + 2, none⟩ = some (.int .i64 a0_2) := hv0.at_ 2 (by decide) rfl
 have hvw0_3 : w.cell? ⟨v0.block, v0.off + 3, none⟩ = some (.int .i64 a0_3) := hv0.at_ 3 (by decide) rfl
 have hvw0_4 : w.cell? ⟨v0.block, v0.off + 4, none⟩ = some (.int .i64 a0_4) := hv0.at_ 4 (by decide) rfl
 have hvw0_5 : w.cell? ⟨v0.block, v0.off + 5, none⟩ = some (.int .i64 a0_5) := hv0.at_ 5 (by decide) rfl
 clear hv0
 have H : ((spec_l01Div.f (wrap64 ((wrap64 (a0_5 * a0_3)) * (wrap64 (a1 - a2)))) 100000).bind fun t158 => (some t158)) = some r := h
 clear h
 replace H := Option.bind_eq_some_iff.mp H
 obtain ⟨t158, A40, H⟩ := H
 replace H : (some t158) = some r := H
 have A4 := Aside0.mk A40
 clear A40
 obtain rfl := Option.some.inj H
 go_enter Try.func55, Try.ntmps55
 go_wp2_with (first | (go_at_call 54; (with_reducible refine (spec_l01Div.calls (wrap64 ((wrap64 (a0_5 * a0_3)) * (wrap64 (a1 - a2)))) 100000 t158 _ A4.out).mono ?_); rintro e w' ⟨rfl, ⟨nd, rfl⟩⟩; (try first | exact ⟨rfl, _, World.drewN_drewN _ _ _⟩ | exact ⟨rfl, _, Eq.trans (World.drewN_drewN _ _ _) (congrArg (World.drewN _) (Nat.add_assoc _ _ _))⟩)))
 repeat (go_quiet (first | (go_at_call 54; (with_reducible refine (spec_l01Div.calls (wrap64 ((wrap64 (a0_5 * a0_3)) * (wrap64 (a1 - a2)))) 100000 t158 _ A4.out).mono ?_); rintro e w' ⟨rfl, ⟨nd, rfl⟩⟩; (try first | exact ⟨rfl, _, World.drewN_drewN _ _ _⟩ | exact ⟨rfl, _, Eq.trans (World.drewN_drewN _ _ _) (congrArg (World.drewN _) (Nat.add_assoc _ _ _))⟩))); try go_wp2_with (first | (go_at_call 54; (with_reducible refine (spec_l01Div.calls (wrap64 ((wrap64 (a0_5 * a0_3)) * (wrap64 (a1 - a2)))) 100000 t158 _ A4.out).mono ?_); rintro e w' ⟨rfl, ⟨nd, rfl⟩⟩; (try first | exact ⟨rfl, _, World.drewN_drewN _ _ _⟩ | exact ⟨rfl, _, Eq.trans (World.drewN_drewN _ _ _) (congrArg (World.drewN _) (Nat.add_assoc _ _ _))⟩))))
 go_ret
 exact ⟨sZ, dZ⟩
def spec_l00Min.f (a0 : Int) (a1 : Int) : Option (Int) := if a0 < a1 then (some a0) else (some a1)
set_option maxHeartbeats 8000000 in
set_option maxRecDepth 100000 in
theorem spec_l00Min.calls (a0 : Int) (a1 : Int) (r : Int) (w : World) (h : spec_l00Min.f a0 a1 = some r) :
  Calls Try.prog 57 #[.int .i64 a0, .int .i64 a1] w fun e w' => e = .returned (.int .i64 r) ∧ Drawn0 w w' := by
 have H : (if a0 < a1 then (some a0) else (some a1)) = some r := h
 clear h
 by_cases c3 : a0 < a1
 ·rw [if_pos c3] at H
  have c3b0 : decide (a0 < a1) = true := decide_eq_true c3
  clear c3
  obtain rfl := Option.some.inj H
  go_enter Try.func57, Try.ntmps57
  go_wp2
  go_ret
  exact ⟨sZ, dZ⟩
 ·rw [if_neg c3] at H
  have c3b0 : decide (a0 < a1) = false := decide_eq_false c3
  clear c3
  obtain rfl := Option.some.inj H
  go_enter Try.func57, Try.ntmps57
  go_wp2
  go_ret
  exact ⟨sZ, dZ⟩
end Go.Proofs.Ytahadhldokhifaa.XP
end

section
namespace Go.Proofs.Ytahadhldokhifaa.XP
open Go.RowKit Go.Proofs.YtahadhldokhifaaW.PrintWords Go.Proofs.YtahadhldokhifaaW.PrintLast Go.Proofs.YtahadhldokhifaaW.PrintMore
attribute [local go_sem] run_eql_slice_nil binOp_string_gtr' binOp_string_leq' binOp_string_geq' max2_int min2_int max_two min_two max_three min_three max_four min_four   -- for this text's walks alone
set_option linter.unusedVariables false
set_option linter.unusedSimpArgs false
def spec_l03End.f (a0_0 : ByteArray) (a0_1 : Int) (a0_2 : Int) (a0_3 : Int) (a0_4 : Int) (a0_5 : Int) (a1 : Int) (a2 : Int) (a3 : Int) : Option (Int) := (spec_l03Loss.f a0_0 a0_1 a0_2 a0_3 a0_4 a0_5 a2 a3).bind fun t159 => ((spec_l03Abs.f a1).bind fun t160 => ((spec_l01Div.f (wrap64 (t159 * 100000)) (wrap64 (t160 * 4186))).bind fun t161 => (if a2 ≥ a3 then ((spec_l00Max.f a3 (wrap64 (a2 - t161))).bind fun t162 => (some t162)) else ((spec_l00Min.f a3 (wrap64 (a2 - t161))).bind fun t163 => (some t163)))))
set_option maxHeartbeats 8000000 in
set_option maxRecDepth 100000 in
theorem spec_l03End.calls (v0 : Addr) (a0_0 : ByteArray) (a0_1 : Int) (a0_2 : Int) (a0_3 : Int) (a0_4 : Int) (a0_5 : Int) (a1 : Int) (a2 : Int) (a3 : Int) (r : Int) (w : World) (hv0 : ViewAt w v0 [.string a0_0, .int .i64 a0_1, .int .i64 a0_2, .int .i64 a0_3, .int .i64 a0_4, .int .i64 a0_5]) (h : spec_l03End.f a0_0 a0_1 a0_2 a0_3 a0_4 a0_5 a1 a2 a3 = some r) :
  Calls Try.prog 36 #[.pointer (some v0), .int .i64 a1, .int .i64 a2, .int .i64 a3] w fun e w' => e = .returned (.int .i64 r) ∧ Drawn0 w w' := by
 have HV0 := Aside0.mk hv0
 have hvw0_0 : w.cell? v0 = some (.string a0_0) := hv0.at0
 have hvw0_1 : w.cell? ⟨v0.block, v0.off + 1, none⟩ = some (.int .i64 a0_1) := hv0.at_ 1 (by decide) rfl
 have hvw0_2 : w.cell? ⟨v0.block, v0.off + 2, none⟩ = some (.int .i64 a0_2) := hv0.at_ 2 (by decide) rfl
 have hvw0_3 : w.cell? ⟨v0.block, v0.off + 3, none⟩ = some (.int .i64 a0_3) := hv0.at_ 3 (by decide) rfl
 have hvw0_4 : w.cell? ⟨v0.block, v0.off + 4, none⟩ = some (.int .i64 a0_4) := hv0.at_ 4 (by decide) rfl
 have hvw0_5 : w.cell? ⟨v0.block, v0.off + 5, none⟩ = some (.int .i64 a0_5) := hv0.at_ 5 (by decide) rfl
 clear hv0
 have H : ((spec_l03Loss.f a0_0 a0_1 a0_2 a0_3 a0_4 a0_5 a2 a3).bind fun t159 => ((spec_l03Abs.f a1).bind fun t160 => ((spec_l01Div.f (wrap64 (t159 * 100000)) (wrap64 (t160 * 4186))).bind fun t161 => (if a2 ≥ a3 then ((spec_l00Max.f a3 (wrap64 (a2 - t161))).bind fun t162 => (some t162)) else ((spec_l00Min.f a3 (wrap64 (a2 - t161))).bind fun t163 => (some t163)))))) = some r := h
 clear h
 replace H := Option.bind_eq_some_iff.mp H
 obtain ⟨t159, A50, H⟩ := H
 replace H : ((spec_l03Abs.f a1).bind fun t160 => ((spec_l01Div.f (wrap64 (t159 * 100000)) (wrap64 (t160 * 4186))).bind fun t161 => (if a2 ≥ a3 then ((spec_l00Max.f a3 (wrap64 (a2 - t161))).bind fun t162 => (some t162)) else ((spec_l00Min.f a3 (wrap64 (a2 - t161))).bind fun t163 => (some t163))))) = some r := H
 have A5 := Aside0.mk A50
 clear A50
 replace H := Option.bind_eq_some_iff.mp H
 obtain ⟨t160, A60, H⟩ := H
 replace H : ((spec_l01Div.f (wrap64 (t159 * 100000)) (wrap64 (t160 * 4186))).bind fun t161 => (if a2 ≥ a3 then ((spec_l00Max.f a3 (wrap64 (a2 - t161))).bind fun t162 => (some t162)) else ((spec_l00Min.f a3 (wrap64 (a2 - t161))).bind fun t163 => (some t163)))) = some r := H
 have A6 := Aside0.mk A60
 clear A60
 replace H := Option.bind_eq_some_iff.mp H
 obtain ⟨t161, A70, H⟩ := H
 replace H : (if a2 ≥ a3 then ((spec_l00Max.f a3 (wrap64 (a2 - t161))).bind fun t162 => (some t162)) else ((spec_l00Min.f a3 (wrap64 (a2 - t161))).bind fun t163 => (some t163))) = some r := H
 have A7 := Aside0.mk A70
 clear A70
 by_cases c8 : a2 ≥ a3
 ·rw [if_pos c8] at H
  have c8b0 : decide (a3 ≤ a2) = true := decide_eq_true c8
  clear c8
  replace H := Option.bind_eq_some_iff.mp H
  obtain ⟨t162, A90, H⟩ := H
  replace H : (some t162) = some r := H
  have A9 := Aside0.mk A90
  clear A90
  obtain rfl := Option.some.inj H
  go_enter Try.func36, Try.ntmps36
  go_wp2_with (first | ((with_reducible refine gate_callee (f := 55) rfl ?_); refine goesL_ (some 14) rfl rfl Try.func55 (by kernel_rfl) rfl #[.pointer (some v0), .int .i64 a2, .int .i64 a3] rfl gZ ?_; (with_reducible refine (spec_l03Loss.calls _ a0_0 a0_1 a0_2 a0_3 a0_4 a0_5 a2 a3 t159 _ ?side1 A5.out).mono ?_); (case side1 => exact HV0.out); rintro e w' ⟨rfl, ⟨nd, rfl⟩⟩; refine ⟨_, rfl, ?_⟩) | ((with_reducible refine gate_callee (f := 53) rfl ?_); refine goesL_ (some 17) rfl rfl Try.func53 (by kernel_rfl) rfl #[.int .i64 a1] rfl gZ ?_; (with_reducible refine (spec_l03Abs.calls a1 t160 _ A6.out).mono ?_); rintro e w' ⟨rfl, ⟨nd, rfl⟩⟩; refine ⟨_, rfl, ?_⟩) | ((with_reducible refine gate_callee (f := 54) rfl ?_); refine goesL_ (some 19) rfl rfl Try.func54 (by kernel_rfl) rfl #[.int .i64 (wrap64 (t159 * 100000)), .int .i64 (wrap64 (t160 * 4186))] rfl gZ ?_; (with_reducible refine (spec_l01Div.calls (wrap64 (t159 * 100000)) (wrap64 (t160 * 4186)) t161 _ A7.out).mono ?_); rintro e w' ⟨rfl, ⟨nd, rfl⟩⟩; refine ⟨_, rfl, ?_⟩) | ((with_reducible refine gate_callee (f := 56) rfl ?_); refine goesL_ (some 28) rfl rfl Try.func56 (by kernel_rfl) rfl #[.int .i64 a3, .int .i64 (wrap64 (a2 - t161))] rfl gZ ?_; (with_reducible refine (spec_l00Max.calls a3 (wrap64 (a2 - t161)) t162 _ A9.out).mono ?_); rintro e w' ⟨rfl, ⟨nd, rfl⟩⟩; refine ⟨_, rfl, ?_⟩))
  go_ret
  exact ⟨sZ, dZ⟩
 ·rw [if_neg c8] at H
  have c8b0 : decide (a3 ≤ a2) = false := decide_eq_false c8
  clear c8
  replace H := Option.bind_eq_some_iff.mp H
  obtain ⟨t163, A100, H⟩ := H
  replace H : (some t163) = some r := H
  have A10 := Aside0.mk A100
  clear A100
  obtain rfl := Option.some.inj H
  go_enter Try.func36, Try.ntmps36
  go_wp2_with (first | ((with_reducible refine gate_callee (f := 55) rfl ?_); refine goesL_ (some 14) rfl rfl Try.func55 (by kernel_rfl) rfl #[.pointer (some v0), .int .i64 a2, .int .i64 a3] rfl gZ ?_; (with_reducible refine (spec_l03Loss.calls _ a0_0 a0_1 a0_2 a0_3 a0_4 a0_5 a2 a3 t159 _ ?side1 A5.out).mono ?_); (case side1 => exact HV0.out); rintro e w' ⟨rfl, ⟨nd, rfl⟩⟩; refine ⟨_, rfl, ?_⟩) | ((with_reducible refine gate_callee (f := 53) rfl ?_); refine goesL_ (some 17) rfl rfl Try.func53 (by kernel_rfl) rfl #[.int .i64 a1] rfl gZ ?_; (with_reducible refine (spec_l03Abs.calls a1 t160 _ A6.out).mono ?_); rintro e w' ⟨rfl, ⟨nd, rfl⟩⟩; refine ⟨_, rfl, ?_⟩) | ((with_reducible refine gate_callee (f := 54) rfl ?_); refine goesL_ (some 19) rfl rfl Try.func54 (by kernel_rfl) rfl #[.int .i64 (wrap64 (t159 * 100000)), .int .i64 (wrap64 (t160 * 4186))] rfl gZ ?_; (with_reducible refine (spec_l01Div.calls (wrap64 (t159 * 100000)) (wrap64 (t160 * 4186)) t161 _ A7.out).mono ?_); rintro e w' ⟨rfl, ⟨nd, rfl⟩⟩; refine ⟨_, rfl, ?_⟩) | ((with_reducible refine gate_callee (f := 57) rfl ?_); refine goesL_ (some 31) rfl rfl Try.func57 (by kernel_rfl) rfl #[.int .i64 a3, .int .i64 (wrap64 (a2 - t161))] rfl gZ ?_; (with_reducible refine (spec_l00Min.calls a3 (wrap64 (a2 - t161)) t163 _ A10.out).mono ?_); rintro e w' ⟨rfl, ⟨nd, rfl⟩⟩; refine ⟨_, rfl, ?_⟩))
  go_ret
  exact ⟨sZ, dZ⟩
def spec_l09Through.l0 : Nat → Int → Int → List (S43) → List (S43) → Int → ByteArray → Int → Int → Int → Int → Int → Option ((List (S43)))
 | 0, _, _, _, _, _, _, _, _, _, _, _ => none
 | k + 1, x1, x3, x11, x12, x13, x1000, x1001, x1002, x1003, x1004, x1005 => if x13 < (x12.length : Int) then (if 0 ≤ x13 then (if x13 > 0 then ((spec_l03End.f x1000 x1001 x1002 x1003 x1004 x1005 x1 ((rd_T43 x12 x13).f1) x3).bind fun t172 => (if x11.length < 8796093022208 then (spec_l09Through.l0 k x1 x3 (x11 ++ [(⟨(rd_T43 x12 x13).f0, t172⟩ : S43)]) x12 (wrap64 (x13 + 1)) x1000 x1001 x1002 x1003 x1004 x1005) else (none))) else (if x11.length < 8796093022208 then (spec_l09Through.l0 k x1 x3 (x11 ++ [(⟨(rd_T43 x12 x13).f0, (rd_T43 x12 x13).f1⟩ : S43)]) x12 (wrap64 (x13 + 1)) x1000 x1001 x1002 x1003 x1004 x1005) else (none))) else (none)) else (some x11)
def spec_l09Through.f (k : Nat) (a0_0 : ByteArray) (a0_1 : Int) (a0_2 : Int) (a0_3 : Int) (a0_4 : Int) (a0_5 : Int) (a1 : Int) (l2 : List (S43)) (a3 : Int) (a4 : Int) : Option ((List (S43))) := (spec_l03Delay.f a0_0 a0_1 a0_2 a0_3 a0_4 a0_5 a1).bind fun t167 => ((spec_l09Late.f k l2 t167 a4).bind fun t168 => (spec_l09Through.l0 k a1 a3 (([] : List (S43))) t168 0 a0_0 a0_1 a0_2 a0_3 a0_4 a0_5))
set_option maxHeartbeats 8000000 in
set_option maxRecDepth 100000 in
theorem spec_l09Through.calls (k : Nat) (v0 : Addr) (a0_0 : ByteArray) (a0_1 : Int) (a0_2 : Int) (a0_3 : Int) (a0_4 : Int) (a0_5 : Int) (a1 : Int) (A2 : Option Addr) (c2 : Nat) (l2 : List (S43)) (a3 : Int) (a4 : Int) (r : List (S43)) (w : World) (hr2 : Kd.C k43 w A2 l2.length l2) (hc2 : l2.length ≤ c2) (hv0 : ViewAt w v0 [.string a0_0, .int .i64 a0_1, .int .i64 a0_2, .int .i64 a0_3, .int .i64 a0_4, .int .i64 a0_5]) (h : spec_l09Through.f k a0_0 a0_1 a0_2 a0_3 a0_4 a0_5 a1 l2 a3 a4 = some r) :
  Calls Try.prog 18 #[.pointer (some v0), .int .i64 a1, .slice A2 l2.length c2, .int .i64 a3, .int .i64 a4] w fun e w' => ∃ v0_ : Value, e = .returned (v0_) ∧ Kd.R k43 43 w' w.heap.size (fun _ => True) v0_ r ∧ Below w.heap.size w w' := by
 have hu43 := Try.underlying43
 have HR2 := Aside0.mk hr2
 have HC2 := Aside0.mk hc2
 clear hr2 hc2
 have HB := Aside0.mk (Below.refl w.heap.size w)
 have HV0 := Aside0.mk hv0
 have hvw0_0 : w.cell? v0 = some (.string a0_0) := hv0.at0
 have hvw0_1 : w.cell? ⟨v0.block, v0.off + 1, none⟩ = some (.int .i64 a0_1) := hv0.at_ 1 (by decide) rfl
 have hvw0_2 : w.cell? ⟨v0.block, v0.off + 2, none⟩ = some (.int .i64 a0_2) := hv0.at_ 2 (by decide) rfl
 have hvw0_3 : w.cell? ⟨v0.block, v0.off + 3, none⟩ = some (.int .i64 a0_3) := hv0.at_ 3 (by decide) rfl
 have hvw0_4 : w.cell? ⟨v0.block, v0.off + 4, none⟩ = some (.int .i64 a0_4) := hv0.at_ 4 (by decide) rfl
 have hvw0_5 : w.cell? ⟨v0.block, v0.off + 5, none⟩ = some (.int .i64 a0_5) := hv0.at_ 5 (by decide) rfl
 clear hv0
 have H : ((spec_l03Delay.f a0_0 a0_1 a0_2 a0_3 a0_4 a0_5 a1).bind fun t167 => ((spec_l09Late.f k l2 t167 a4).bind fun t168 => (spec_l09Through.l0 k a1 a3 (([] : List (S43))) t168 0 a0_0 a0_1 a0_2 a0_3 a0_4 a0_5))) = some r := h
 clear h
 obtain ⟨y164, hy164⟩ : ∃ y_ : List (S43), y_ = (([] : List (S43))) := ⟨_, rfl⟩
 replace H : ((spec_l03Delay.f a0_0 a0_1 a0_2 a0_3 a0_4 a0_5 a1).bind fun t167 => ((spec_l09Late.f k l2 t167 a4).bind fun t168 => (spec_l09Through.l0 k a1 a3 y164 t168 0 a0_0 a0_1 a0_2 a0_3 a0_4 a0_5))) = some r := by first | (rw [hy164]; with_reducible exact H) | (have H2_ := (Option.bind_some _ _).symm.trans H; rw [hy164]; with_reducible exact H2_) | (have H2_ := (Option.bind_some _ _).symm.trans H; with_reducible exact H2_) | with_reducible exact H | (rw [hy164]; exact H) | exact H
 have Ny164 := Aside0.mk hy164
 clear hy164
 replace H := Option.bind_eq_some_iff.mp H
 obtain ⟨t167, A60, H⟩ := H
 replace H : ((spec_l09Late.f k l2 t167 a4).bind fun t168 => (spec_l09Through.l0 k a1 a3 y164 t168 0 a0_0 a0_1 a0_2 a0_3 a0_4 a0_5)) = some r := H
 have A6 := Aside0.mk A60
 clear A60
 replace H := Option.bind_eq_some_iff.mp H
 obtain ⟨t168, A70, H⟩ := H
 replace H : (spec_l09Through.l0 k a1 a3 y164 t168 0 a0_0 a0_1 a0_2 a0_3 a0_4 a0_5) = some r := H
 have A7 := Aside0.mk A70
 clear A70
 have H' := Aside0.mk H
 clear H
 go_enter Try.func18, Try.ntmps18
 go_wp2_with (first | ((with_reducible refine gate_dst (N := 15) rfl ?_); refine Kd.R_lit k43 _ 43 ?hg (N := 15) ?hd (xs := ([] : List (S43))) (inner := []) (ok := fun _ => True) (okp := fun _ => True) ?hr ?hp (fun _ hk => hk) trivial (Below.refl _ _) (Nat.le_refl _) (by simp) ?_; (case hd => rfl); (case hg => rfl); (case hr => first | (go_simp; done) | (go_simp; rfl)); (case hp => exact (Reps.none _ _)); intro v165 w8 ho9 hb hg_ hnew_; clear hg_ hnew_; (first | rw [← Ny164.out] at ho9 | (simp only [Int.reduceToNat] at ho9; rw [← Ny164.out] at ho9)); have n0_ := Aside0.mk (Kd.R_lower ho9 bsZ); have n1_ := Aside0.mk (below_step bZ hb); clear HB; have HO166 := n0_; have HB := n1_; clear n0_ n1_; clear hb ho9) | ((with_reducible refine gate_callee (f := 35) rfl ?_); refine goesL_ (some 19) rfl rfl Try.func35 (by kernel_rfl) rfl #[.pointer (some v0), .int .i64 a1] rfl gZ ?_; (with_reducible refine (spec_l03Delay.calls _ a0_0 a0_1 a0_2 a0_3 a0_4 a0_5 a1 t167 _ ?side1 A6.out).mono ?_); (case side1 => exact HV0.out.below bZ); rintro e w' ⟨rfl, ⟨nd, rfl⟩⟩; refine ⟨_, rfl, ?_⟩) | ((with_reducible refine gate_callee (f := 34) rfl ?_); refine goesL_ (some 21) rfl rfl Try.func34 (by kernel_rfl) rfl #[.slice A2 l2.length c2, .int .i64 t167, .int .i64 a4] rfl gZ ?_; (with_reducible refine (spec_l09Late.calls k _ _ l2 t167 a4 t168 _ ?side1 ?side2 A7.out).mono ?_); (case side1 => repeat (first | exact (Kd.C_below HR2.out bZ) | (with_reducible refine Kd.C_alloc ?_ _) | (with_reducible refine Kd.C_drewN ?_ _) | (with_reducible refine Kd.C_drew ?_))); (case side2 => exact HC2.out); rintro e w10 ⟨v169, rfl, ho0, hb⟩; refine ⟨_, rfl, ?_⟩; have n0_ := Aside0.mk (Kd.R_elder' (Kd.rZ HO166.out) (Kd.R_base ho0) hb); have n1_ := Aside0.mk (Kd.R_lower (Kd.R_new' ho0 (Kd.R_lt (Kd.rZ HO166.out))) bsZ); have n2_ := Aside0.mk (below_step bZ hb); clear HO166; clear HB; have HO166 := n0_; have HO170 := n1_; have HB := n2_; clear n0_ n1_ n2_; (try clear hb); (try clear hb2); (try clear hk); (try clear hi); (try clear ho0)))
 go_loopg [11, 13] k (fun kq v11 v13 w' => ∃ (x11_1 : List (S43)) (x13_1 : Int), v13 = .int .i64 x13_1 ∧ Aside0 (spec_l09Through.l0 kq a1 a3 x11_1 t168 x13_1 a0_0 a0_1 a0_2 a0_3 a0_4 a0_5 = some r) ∧ Aside0 (kq ≤ k) ∧ Aside0 (Kd.R k43 43 w' w.heap.size (fun k_ => some k_ ≠ (v169 : Value).ownBlock) v11 x11_1) ∧ Aside0 (Kd.R k43 43 w' w.heap.size (fun k_ => some k_ ≠ (v11 : Value).ownBlock) v169 t168) ∧ Aside0 (Below w.heap.size w w'))
 case atStart => exact ⟨(y164), (0), sZ, H', ⟨Nat.le_refl _⟩, ⟨Kd.rZ (Kd.R_mono HO166.out (fun _ hk => hk.2))⟩, ⟨Kd.rZ (Kd.R_mono HO170.out (fun _ hk => hk.2))⟩, ⟨bZ⟩⟩
 case round =>
  clear H'; (try clear c1); (try clear c2); (try clear p2); (try clear c3)
  obtain ⟨x11_1, x13_1, rfl, HA, HK1, HO_11, HO_12, HB⟩ := hrel
  cases gk with
  | zero => exact absurd HA.out (by simp [spec_l09Through.l0])
  | succ k1 =>
   have H := HA.out
   clear HA
   simp only [spec_l09Through.l0] at H
   by_cases c11 : x13_1 < (t168.length : Int)
   ·rw [if_pos c11] at H
    have c11b0 : decide (x13_1 < (t168.length : Int)) = true := decide_eq_true c11
    clear c11
    by_cases c12 : 0 ≤ x13_1
    ·rw [if_pos c12] at H
     have c12b0 : decide (0 ≤ x13_1) = true := decide_eq_true c12
     clear c12
     by_cases c13 : x13_1 > 0
     ·rw [if_pos c13] at H
      have c13b0 : decide (0 < x13_1) = true := decide_eq_true c13
      clear c13
      replace H := Option.bind_eq_some_iff.mp H
      obtain ⟨t172, A140, H⟩ := H
      replace H : (if x11_1.length < 8796093022208 then (spec_l09Through.l0 k1 a1 a3 (x11_1 ++ [(⟨(rd_T43 t168 x13_1).f0, t172⟩ : S43)]) t168 (wrap64 (x13_1 + 1)) a0_0 a0_1 a0_2 a0_3 a0_4 a0_5) else (none)) = some r := H
      have A14 := Aside0.mk A140
      clear A140
      by_cases c15 : x11_1.length < 8796093022208
      ·rw [if_pos c15] at H
       have LMc15 := Aside0.mk c15
       clear c15
       obtain ⟨y174, hy174⟩ : ∃ y_ : List (S43), y_ = (x11_1 ++ [(⟨(rd_T43 t168 x13_1).f0, t172⟩ : S43)]) := ⟨_, rfl⟩
       replace H : (spec_l09Through.l0 k1 a1 a3 y174 t168 (wrap64 (x13_1 + 1)) a0_0 a0_1 a0_2 a0_3 a0_4 a0_5) = some r := by first | (rw [hy174]; with_reducible exact H) | (have H2_ := (Option.bind_some _ _).symm.trans H; rw [hy174]; with_reducible exact H2_) | (have H2_ := (Option.bind_some _ _).symm.trans H; with_reducible exact H2_) | with_reducible exact H | (rw [hy174]; exact H) | exact H
       have Ny174 := Aside0.mk hy174
       clear hy174
       have H' := Aside0.mk H
       clear H
       obtain ⟨Ao16, co16, eo16⟩ := Kd.R_slice HO_12.out
       subst eo16
       have p171 : 0 ≤ (x13_1 : Int) := oZ
       have q171 : x13_1 < (t168.length : Int) := oZ
       obtain ⟨ad171, e171, hx171_0, hx171_1⟩ := at_T43 (Kd.R_reads' HO_12.out).2.2 x13_1 p171 q171
       cases e171
       replace p171 := eq_true p171
       replace q171 := eq_true q171
       go_wp2_with (first | ((with_reducible refine gate_callee (f := 36) rfl ?_); refine goesL_ (some 39) rfl rfl Try.func36 (by kernel_rfl) rfl #[.pointer (some v0), .int .i64 a1, .int .i64 ((rd_T43 t168 x13_1).f1), .int .i64 a3] rfl gZ ?_; (with_reducible refine (spec_l03End.calls _ a0_0 a0_1 a0_2 a0_3 a0_4 a0_5 a1 ((rd_T43 t168 x13_1).f1) a3 t172 _ ?side1 A14.out).mono ?_); (case side1 => exact HV0.out.below bZ); rintro e w' ⟨rfl, ⟨nd, rfl⟩⟩; refine ⟨_, rfl, ?_⟩; have p173 : 0 ≤ (x13_1 : Int) := oZ; have q173 : x13_1 < (t168.length : Int) := oZ; obtain ⟨ad173, e173, hx173_0, hx173_1⟩ := at_T43 (Kd.R_reads' HO_12.out).2.2 x13_1 p173 q173; obtain rfl : ad171 = ad173 := (by injection e173); replace p173 := eq_true p173; replace q173 := eq_true q173) | ((with_reducible refine gate_builtin (b := .append) (xs := #[.tmp 40, .tmp 48]) rfl ?_); at_builtin; refine Kd.R_append k43 (w0 := w) w.heap.size rfl (.tmp 40) (.tmp 48) 27 43 (.agg #[(.int .i64 0), (.int .i64 0)]) 16 rfl Try.underlying27 info43 rfl (by decide) (by omega) u11 x11_1 (⟨(rd_T43 t168 x13_1).f0, t172⟩ : S43) [.int .i64 ((rd_T43 t168 x13_1).f0), .int .i64 t172] (fun k_ => some k_ ≠ (.slice (some ad171) t168.length co16 : Value).ownBlock) (fun _ => False) rfl rfl ?aP (fun _ hk => hk.elim) ?aF ?aO ?aB ?aS ?aL ?_; (case aP => exact k43_mkM _ _ _ (⟨(rd_T43 t168 x13_1).f0, t172⟩ : S43)); (case aB => exact bZ); (case aF => exact (fun k_ hk => Kd.fresh' (Kd.R_lt (Kd.rZ HO_12.out)) k_ hk)); (case aO => exact (Kd.rZ HO_11.out)); (case aS => exact bsZ); (case aL => have := LMc15.out; omega); intro v175 w17 ho hb hg hat; rw [← Ny174.out] at ho; have n0_ := Aside0.mk (Kd.R_after (ok := (fun _ => True)) (Kd.rZ (Kd.R_mono HO_12.out (fun _ hk => ⟨trivial, hk⟩))) hg hat); have n1_ := Aside0.mk (hb); have n2_ := Aside0.mk (ho); clear HO_12; clear HB; clear HO_11; have HO_12 := n0_; have HB := n1_; have HO176 := n2_; clear n0_ n1_ n2_; clear ho hb hg hat))
       go_roundg k1
       case measure => have := HK1.out; omega
       case rel => exact ⟨(y174), (wrap64 (x13_1 + 1)), sZ, H', ⟨by have := HK1.out; omega⟩, ⟨Kd.rZ HO176.out⟩, ⟨Kd.rZ (Kd.R_mono HO_12.out (fun _ hk => hk.2))⟩, ⟨bZ⟩⟩
      ·rw [if_neg c15] at H
       exact absurd H (by simp)
     ·rw [if_neg c13] at H
      have c13b0 : decide (0 < x13_1) = false := decide_eq_false c13
      clear c13
      by_cases c18 : x11_1.length < 8796093022208
      ·rw [if_pos c18] at H
       have LMc18 := Aside0.mk c18
       clear c18
       obtain ⟨y178, hy178⟩ : ∃ y_ : List (S43), y_ = (x11_1 ++ [(⟨(rd_T43 t168 x13_1).f0, (rd_T43 t168 x13_1).f1⟩ : S43)]) := ⟨_, rfl⟩
       replace H : (spec_l09Through.l0 k1 a1 a3 y178 t168 (wrap64 (x13_1 + 1)) a0_0 a0_1 a0_2 a0_3 a0_4 a0_5) = some r := by first | (rw [hy178]; with_reducible exact H) | (have H2_ := (Option.bind_some _ _).symm.trans H; rw [hy178]; with_reducible exact H2_) | (have H2_ := (Option.bind_some _ _).symm.trans H; with_reducible exact H2_) | with_reducible exact H | (rw [hy178]; exact H) | exact H
       have Ny178 := Aside0.mk hy178
       clear hy178
       have H' := Aside0.mk H
       clear H
       obtain ⟨Ao19, co19, eo19⟩ := Kd.R_slice HO_12.out
       subst eo19
       have p171 : 0 ≤ (x13_1 : Int) := oZ
       have q171 : x13_1 < (t168.length : Int) := oZ
       obtain ⟨ad171, e171, hx171_0, hx171_1⟩ := at_T43 (Kd.R_reads' HO_12.out).2.2 x13_1 p171 q171
       cases e171
       replace p171 := eq_true p171
       replace q171 := eq_true q171
       have p177 : 0 ≤ (x13_1 : Int) := oZ
       have q177 : x13_1 < (t168.length : Int) := oZ
       obtain ⟨ad177, e177, hx177_0, hx177_1⟩ := at_T43 (Kd.R_reads' HO_12.out).2.2 x13_1 p177 q177
       obtain rfl : ad171 = ad177 := (by injection e177)
       replace p177 := eq_true p177
       replace q177 := eq_true q177
       go_wp2_with (first | ((with_reducible refine gate_builtin (b := .append) (xs := #[.tmp 40, .tmp 48]) rfl ?_); at_builtin; refine Kd.R_append k43 (w0 := w) w.heap.size rfl (.tmp 40) (.tmp 48) 27 43 (.agg #[(.int .i64 0), (.int .i64 0)]) 16 rfl Try.underlying27 info43 rfl (by decide) (by omega) u11 x11_1 (⟨(rd_T43 t168 x13_1).f0, (rd_T43 t168 x13_1).f1⟩ : S43) [.int .i64 ((rd_T43 t168 x13_1).f0), .int .i64 ((rd_T43 t168 x13_1).f1)] (fun k_ => some k_ ≠ (.slice (some ad171) t168.length co19 : Value).ownBlock) (fun _ => False) rfl rfl ?aP (fun _ hk => hk.elim) ?aF ?aO ?aB ?aS ?aL ?_; (case aP => exact k43_mkM _ _ _ (⟨(rd_T43 t168 x13_1).f0, (rd_T43 t168 x13_1).f1⟩ : S43)); (case aB => exact bZ); (case aF => exact (fun k_ hk => Kd.fresh' (Kd.R_lt (Kd.rZ HO_12.out)) k_ hk)); (case aO => exact (Kd.rZ HO_11.out)); (case aS => exact bsZ); (case aL => have := LMc18.out; omega); intro v179 w20 ho hb hg hat; rw [← Ny178.out] at ho; have n0_ := Aside0.mk (Kd.R_after (ok := (fun _ => True)) (Kd.rZ (Kd.R_mono HO_12.out (fun _ hk => ⟨trivial, hk⟩))) hg hat); have n1_ := Aside0.mk (hb); have n2_ := Aside0.mk (ho); clear HO_12; clear HB; clear HO_11; have HO_12 := n0_; have HB := n1_; have HO180 := n2_; clear n0_ n1_ n2_; clear ho hb hg hat))
       go_roundg k1
       case measure => have := HK1.out; omega
       case rel => exact ⟨(y178), (wrap64 (x13_1 + 1)), sZ, H', ⟨by have := HK1.out; omega⟩, ⟨Kd.rZ HO180.out⟩, ⟨Kd.rZ (Kd.R_mono HO_12.out (fun _ hk => hk.2))⟩, ⟨bZ⟩⟩
      ·rw [if_neg c18] at H
       exact absurd H (by simp)
    ·rw [if_neg c12] at H
     exact absurd H (by simp)
   ·rw [if_neg c11] at H
    have c11b0 : decide (x13_1 < (t168.length : Int)) = false := decide_eq_false c11
    clear c11
    obtain rfl := Option.some.inj H
    obtain ⟨Ao21, co21, eo21⟩ := Kd.R_slice HO_12.out
    subst eo21
    go_wp2
    go_ret
    exact ⟨_, eZ, Kd.rZ (Kd.R_mono HO_11.out (fun _ hk => trivial)), bZ⟩
end Go.Proofs.Ytahadhldokhifaa.XP
end

section
namespace Go.Proofs.Ytahadhldokhifaa.XP
open Go.RowKit Go.Proofs.YtahadhldokhifaaW.PrintWords Go.Proofs.YtahadhldokhifaaW.PrintLast Go.Proofs.YtahadhldokhifaaW.PrintMore
attribute [local go_sem] run_eql_slice_nil binOp_string_gtr' binOp_string_leq' binOp_string_geq' max2_int min2_int max_two min_two max_three min_three max_four min_four   -- for this text's walks alone
set_option linter.unusedVariables false
set_option linter.unusedSimpArgs false
mutual
def spec_ThroughPipe.j0 : Nat → Int → List (S43) → Int → Int → Bool → ByteArray → Int → Int → Int → Int → Int → Option ((List (S43)) × Int)
 | 0, _, _, _, _, _, _, _, _, _, _, _ => none
 | k + 1, x1, x2, x3, x4, x18, x182000, x182001, x182002, x182003, x182004, x182005 => if x18 = true then (some (([] : List (S43)), 1)) else ((spec_l03Flow.f x1).bind fun t184 => (if t184 = true then ((spec_l03Degrees.f x3).bind fun t185 => (if t185 = true then ((spec_l03Degrees.f x4).bind fun t186 => (spec_ThroughPipe.j1 k x1 x2 x3 x4 (!t186) x182000 x182001 x182002 x182003 x182004 x182005)) else (spec_ThroughPipe.j1 k x1 x2 x3 x4 true x182000 x182001 x182002 x182003 x182004 x182005))) else (spec_ThroughPipe.j1 k x1 x2 x3 x4 true x182000 x182001 x182002 x182003 x182004 x182005)))
def spec_ThroughPipe.j1 : Nat → Int → List (S43) → Int → Int → Bool → ByteArray → Int → Int → Int → Int → Int → Option ((List (S43)) × Int)
 | 0, _, _, _, _, _, _, _, _, _, _, _ => none
 | k + 1, x1, x2, x3, x4, x31, x182000, x182001, x182002, x182003, x182004, x182005 => if x31 = true then (some (([] : List (S43)), 2)) else (if x1 = 0 then (some (([] : List (S43)), 6)) else ((spec_l09Through.f k x182000 x182001 x182002 x182003 x182004 x182005 x1 x2 x3 x4).bind fun t187 => ((spec_l09Done.f k t187).bind fun bt190 => (some (bt190.1, bt190.2)))))
end
def spec_ThroughPipe.f (k : Nat) (a0_0 : ByteArray) (a0_1 : Int) (a0_2 : Int) (a0_3 : Int) (a0_4 : Int) (a0_5 : Int) (a1 : Int) (l2 : List (S43)) (a3 : Int) (a4 : Int) : Option ((List (S43)) × Int) := (spec_l03Ok.f k a0_0 a0_1 a0_2 a0_3 a0_4 a0_5).bind fun t182 => (if t182 = true then ((spec_l09Ok.f k l2).bind fun t183 => (spec_ThroughPipe.j0 k a1 l2 a3 a4 (!t183) a0_0 a0_1 a0_2 a0_3 a0_4 a0_5)) else (spec_ThroughPipe.j0 k a1 l2 a3 a4 true a0_0 a0_1 a0_2 a0_3 a0_4 a0_5))
set_option maxHeartbeats 8000000 in
set_option maxRecDepth 100000 in
theorem spec_ThroughPipe.calls (k : Nat) (a0_0 : ByteArray) (a0_1 : Int) (a0_2 : Int) (a0_3 : Int) (a0_4 : Int) (a0_5 : Int) (a1 : Int) (A2 : Option Addr) (c2 : Nat) (l2 : List (S43)) (a3 : Int) (a4 : Int) (r1 : List (S43)) (r2 : Int) (w : World) (hr2 : Kd.C k43 w A2 l2.length l2) (hc2 : l2.length ≤ c2) (h : spec_ThroughPipe.f k a0_0 a0_1 a0_2 a0_3 a0_4 a0_5 a1 l2 a3 a4 = some (r1, r2)) :
  Calls Try.prog 6 #[.agg #[.string a0_0, .int .i64 a0_1, .int .i64 a0_2, .int .i64 a0_3, .int .i64 a0_4, .int .i64 a0_5], .int .i64 a1, .slice A2 l2.length c2, .int .i64 a3, .int .i64 a4] w fun e w' => ∃ v0_ : Value, e = .returned (.tuple #[v0_, .int .i64 r2]) ∧ Kd.R k43 43 w' w.heap.size (fun _ => True) v0_ r1 ∧ Below w.heap.size w w' := by
 have hu30 := Try.underlying30
 have HR2 := Aside0.mk hr2
 have HC2 := Aside0.mk hc2
 clear hr2 hc2
 have HB := Aside0.mk (Below.refl w.heap.size w)
 have H : ((spec_l03Ok.f k a0_0 a0_1 a0_2 a0_3 a0_4 a0_5).bind fun t182 => (if t182 = true then ((spec_l09Ok.f k l2).bind fun t183 => (spec_ThroughPipe.j0 k a1 l2 a3 a4 (!t183) a0_0 a0_1 a0_2 a0_3 a0_4 a0_5)) else (spec_ThroughPipe.j0 k a1 l2 a3 a4 true a0_0 a0_1 a0_2 a0_3 a0_4 a0_5))) = some (r1, r2) := h
 clear h
 have HC6 := Aside0.mk H
 clear H
 go_enter Try.func6, Try.ntmps6
 go_upto_region 1 with (first | ((with_reducible refine gate_dst (N := 5) rfl ?_); refine boxZ 5 #[.string a0_0, .int .i64 a0_1, .int .i64 a0_2, .int .i64 a0_3, .int .i64 a0_4, .int .i64 a0_5] 30 rfl rfl ?_; intro gb181 hg w7 hbox hb; have n0_ := Aside0.mk (below_step bZ hb); have n1_ := Aside0.mk (hbox); have n2_ := Aside0.mk ((by rw [hg]; exact bsZ : w.heap.size ≤ gb181)); have n3_ := Aside0.mk ((by rw [hg]; exact bsZ : w.heap.size ≤ gb181)); clear HB; have HB := n0_; have BK181 := n1_; have GW181 := n2_; have GE181 := n3_; clear n0_ n1_ n2_ n3_; clear hb hbox hg))
 (try simp only [Act.put, List.setIfInBounds_toArray, List.set_cons_zero, List.set_cons_succ])
 go_cut [18] (fun v18 wc => ∃ (kq : Nat) (x18_5 : Bool) (x182000_5 : ByteArray) (x182001_5 : Int) (x182002_5 : Int) (x182003_5 : Int) (x182004_5 : Int) (x182005_5 : Int), v18 = .bool x18_5 ∧ Aside0 (spec_ThroughPipe.j0 kq a1 l2 a3 a4 x18_5 x182000_5 x182001_5 x182002_5 x182003_5 x182004_5 x182005_5 = some (r1, r2)) ∧ Aside0 (kq ≤ k) ∧ Aside0 (wc.heap[gb181]? = some (.cells #[.string x182000_5, .int .i64 x182001_5, .int .i64 x182002_5, .int .i64 x182003_5, .int .i64 x182004_5, .int .i64 x182005_5] 30 (0, 0))) ∧ Aside0 (Below w.heap.size w wc))
 case first =>
  have H := HC6.out
  clear HC6
  replace H := Option.bind_eq_some_iff.mp H
  obtain ⟨t182, A80, H⟩ := H
  replace H : (if t182 = true then ((spec_l09Ok.f k l2).bind fun t183 => (spec_ThroughPipe.j0 k a1 l2 a3 a4 (!t183) a0_0 a0_1 a0_2 a0_3 a0_4 a0_5)) else (spec_ThroughPipe.j0 k a1 l2 a3 a4 true a0_0 a0_1 a0_2 a0_3 a0_4 a0_5)) = some (r1, r2) := H
  have A8 := Aside0.mk A80
  clear A80
  by_cases c9 : t182 = true
  ·subst c9
   have H1 : ((spec_l09Ok.f k l2).bind fun t183 => (spec_ThroughPipe.j0 k a1 l2 a3 a4 (!t183) a0_0 a0_1 a0_2 a0_3 a0_4 a0_5)) = some (r1, r2) := by rw [if_pos rfl] at H; exact H
   clear H
   have H := H1
   clear H1
   replace H := Option.bind_eq_some_iff.mp H
   obtain ⟨t183, A100, H⟩ := H
   replace H : (spec_ThroughPipe.j0 k a1 l2 a3 a4 (!t183) a0_0 a0_1 a0_2 a0_3 a0_4 a0_5) = some (r1, r2) := H
   have A10 := Aside0.mk A100
   clear A100
   have H' := Aside0.mk H
   clear H
   go_wp2_with (first | ((with_reducible refine gate_callee (f := 13) rfl ?_); refine goesL_ (some 12) rfl rfl Try.func13 (by kernel_rfl) rfl #[.pointer (some ⟨gb181, 0, none⟩)] rfl gZ ?_; (with_reducible refine (spec_l03Ok.calls k _ a0_0 a0_1 a0_2 a0_3 a0_4 a0_5 true _ ?side1 A8.out).mono ?_); (case side1 => exact ViewAt.of_blk (kZ BK181.out)); rintro e w' ⟨rfl, ⟨nd, rfl⟩⟩; refine ⟨_, rfl, ?_⟩) | (go_at_call 14; (with_reducible refine (spec_l09Ok.calls k _ _ l2 t183 _ ?side1 ?side2 A10.out).mono ?_); (case side1 => repeat (first | exact (Kd.C_below HR2.out bZ) | (with_reducible refine Kd.C_alloc ?_ _) | (with_reducible refine Kd.C_drewN ?_ _) | (with_reducible refine Kd.C_drew ?_))); (case side2 => exact HC2.out); rintro e w11 ⟨rfl, hb⟩; have n0_ := Aside0.mk (blk_below (g := gb181) (o := .cells #[.string a0_0, .int .i64 a0_1, .int .i64 a0_2, .int .i64 a0_3, .int .i64 a0_4, .int .i64 a0_5] 30 (0, 0)) (kZ BK181.out) hb); have n1_ := Aside0.mk (below_step bZ hb); clear BK181; clear HB; have BK181 := n0_; have HB := n1_; clear n0_ n1_; (try clear hb); (try clear hb2); (try clear hk); (try clear hi)))
   go_meet
   case rel => exact ⟨_, (!t183), (a0_0), (a0_1), (a0_2), (a0_3), (a0_4), (a0_5), sZ, H', ⟨by first | omega | exact Nat.le_refl _⟩, ⟨kZ BK181.out⟩, ⟨bZ⟩⟩
  ·replace c9 := Bool.eq_false_iff.mpr c9
   subst c9
   have H1 : (spec_ThroughPipe.j0 k a1 l2 a3 a4 true a0_0 a0_1 a0_2 a0_3 a0_4 a0_5) = some (r1, r2) := by rw [if_neg (show ¬ (false = true) by decide)] at H; exact H
   clear H
   have H := H1
   clear H1
   have H' := Aside0.mk H
   clear H
   go_wp2_with (first | ((with_reducible refine gate_callee (f := 13) rfl ?_); refine goesL_ (some 12) rfl rfl Try.func13 (by kernel_rfl) rfl #[.pointer (some ⟨gb181, 0, none⟩)] rfl gZ ?_; (with_reducible refine (spec_l03Ok.calls k _ a0_0 a0_1 a0_2 a0_3 a0_4 a0_5 false _ ?side1 A8.out).mono ?_); (case side1 => exact ViewAt.of_blk (kZ BK181.out)); rintro e w' ⟨rfl, ⟨nd, rfl⟩⟩; refine ⟨_, rfl, ?_⟩))
   go_meet
   case rel => exact ⟨_, (true), (a0_0), (a0_1), (a0_2), (a0_3), (a0_4), (a0_5), sZ, H', ⟨by first | omega | exact Nat.le_refl _⟩, ⟨kZ BK181.out⟩, ⟨bZ⟩⟩
 case rest =>
  clear HC6; (try clear c1); (try clear c2); (try clear p2); (try clear c6); (try clear c9)
  obtain ⟨kq, x18_5, x182000_5, x182001_5, x182002_5, x182003_5, x182004_5, x182005_5, rfl, HA, HJ5, BK181, HB⟩ := hcut
  cases kq with
  | zero => exact absurd HA.out (by simp [spec_ThroughPipe.j0])
  | succ kj5 =>
   have H := HA.out
   clear HA
   simp only [spec_ThroughPipe.j0] at H
   by_cases c12 : x18_5 = true
   ·subst c12
    have H1 : (some (([] : List (S43)), 1)) = some (r1, r2) := by rw [if_pos rfl] at H; exact H
    clear H
    have H := H1
    clear H1
    simp only [Option.some.injEq, Prod.mk.injEq] at H
    obtain ⟨rfl, rfl⟩ := H
    go_wp2
    go_ret2
    exact ⟨_, eZ, by first | exact Kd.R_nil _ _ _ _ _ | exact Kd.N_nil _ _ _ _ _ | exact Kd.V_nil _ _ _ _ _ | exact Kd.Q_nil _ _ _ _ _ | exact Kd.S_nil _ _ _ _ _, bZ⟩
   ·replace c12 := Bool.eq_false_iff.mpr c12
    subst c12
    have H1 : ((spec_l03Flow.f a1).bind fun t184 => (if t184 = true then ((spec_l03Degrees.f a3).bind fun t185 => (if t185 = true then ((spec_l03Degrees.f a4).bind fun t186 => (spec_ThroughPipe.j1 kj5 a1 l2 a3 a4 (!t186) x182000_5 x182001_5 x182002_5 x182003_5 x182004_5 x182005_5)) else (spec_ThroughPipe.j1 kj5 a1 l2 a3 a4 true x182000_5 x182001_5 x182002_5 x182003_5 x182004_5 x182005_5))) else (spec_ThroughPipe.j1 kj5 a1 l2 a3 a4 true x182000_5 x182001_5 x182002_5 x182003_5 x182004_5 x182005_5))) = some (r1, r2) := by rw [if_neg (show ¬ (false = true) by decide)] at H; exact H
    clear H
    have H := H1
    clear H1
    have HC13 := Aside0.mk H
    clear H
    go_upto_region 3 with (fail)
    go_cut [31] (fun v31 wc => ∃ (kq : Nat) (x31_12 : Bool), v31 = .bool x31_12 ∧ Aside0 (spec_ThroughPipe.j1 kq a1 l2 a3 a4 x31_12 x182000_5 x182001_5 x182002_5 x182003_5 x182004_5 x182005_5 = some (r1, r2)) ∧ Aside0 (kq ≤ kj5) ∧ Aside0 (wc.heap[gb181]? = some (.cells #[.string x182000_5, .int .i64 x182001_5, .int .i64 x182002_5, .int .i64 x182003_5, .int .i64 x182004_5, .int .i64 x182005_5] 30 (0, 0))) ∧ Aside0 (Below w.heap.size w wc))
    case first =>
     have H := HC13.out
     clear HC13
     replace H := Option.bind_eq_some_iff.mp H
     obtain ⟨t184, A140, H⟩ := H
     replace H : (if t184 = true then ((spec_l03Degrees.f a3).bind fun t185 => (if t185 = true then ((spec_l03Degrees.f a4).bind fun t186 => (spec_ThroughPipe.j1 kj5 a1 l2 a3 a4 (!t186) x182000_5 x182001_5 x182002_5 x182003_5 x182004_5 x182005_5)) else (spec_ThroughPipe.j1 kj5 a1 l2 a3 a4 true x182000_5 x182001_5 x182002_5 x182003_5 x182004_5 x182005_5))) else (spec_ThroughPipe.j1 kj5 a1 l2 a3 a4 true x182000_5 x182001_5 x182002_5 x182003_5 x182004_5 x182005_5)) = some (r1, r2) := H
     have A14 := Aside0.mk A140
     clear A140
     by_cases c15 : t184 = true
     ·subst c15
      have H1 : ((spec_l03Degrees.f a3).bind fun t185 => (if t185 = true then ((spec_l03Degrees.f a4).bind fun t186 => (spec_ThroughPipe.j1 kj5 a1 l2 a3 a4 (!t186) x182000_5 x182001_5 x182002_5 x182003_5 x182004_5 x182005_5)) else (spec_ThroughPipe.j1 kj5 a1 l2 a3 a4 true x182000_5 x182001_5 x182002_5 x182003_5 x182004_5 x182005_5))) = some (r1, r2) := by rw [if_pos rfl] at H; exact H
      clear H
      have H := H1
      clear H1
      replace H := Option.bind_eq_some_iff.mp H
      obtain ⟨t185, A160, H⟩ := H
      replace H : (if t185 = true then ((spec_l03Degrees.f a4).bind fun t186 => (spec_ThroughPipe.j1 kj5 a1 l2 a3 a4 (!t186) x182000_5 x182001_5 x182002_5 x182003_5 x182004_5 x182005_5)) else (spec_ThroughPipe.j1 kj5 a1 l2 a3 a4 true x182000_5 x182001_5 x182002_5 x182003_5 x182004_5 x182005_5)) = some (r1, r2) := H
      have A16 := Aside0.mk A160
      clear A160
      by_cases c17 : t185 = true
      ·subst c17
       have H1 : ((spec_l03Degrees.f a4).bind fun t186 => (spec_ThroughPipe.j1 kj5 a1 l2 a3 a4 (!t186) x182000_5 x182001_5 x182002_5 x182003_5 x182004_5 x182005_5)) = some (r1, r2) := by rw [if_pos rfl] at H; exact H
       clear H
       have H := H1
       clear H1
       replace H := Option.bind_eq_some_iff.mp H
       obtain ⟨t186, A180, H⟩ := H
       replace H : (spec_ThroughPipe.j1 kj5 a1 l2 a3 a4 (!t186) x182000_5 x182001_5 x182002_5 x182003_5 x182004_5 x182005_5) = some (r1, r2) := H
       have A18 := Aside0.mk A180
       clear A180
       have H' := Aside0.mk H
       clear H
       go_wp2_with (first | ((with_reducible refine gate_callee (f := 15) rfl ?_); refine goesL_ (some 20) rfl rfl Try.func15 (by kernel_rfl) rfl #[.int .i64 a1] rfl gZ ?_; (with_reducible refine (spec_l03Flow.calls a1 true _ A14.out).mono ?_); rintro e w' ⟨rfl, ⟨nd, rfl⟩⟩; refine ⟨_, rfl, ?_⟩) | (go_at_call 16; (with_reducible refine (spec_l03Degrees.calls a3 true _ A16.out).mono ?_); rintro e w' ⟨rfl, ⟨nd, rfl⟩⟩) | (go_at_call 16; (with_reducible refine (spec_l03Degrees.calls a4 t186 _ A18.out).mono ?_); rintro e w' ⟨rfl, ⟨nd, rfl⟩⟩))
       go_meet
       case rel => exact ⟨_, (!t186), sZ, H', ⟨by have := HJ5.out; first | omega | exact Nat.le_refl _⟩, ⟨kZ BK181.out⟩, ⟨bZ⟩⟩
      ·replace c17 := Bool.eq_false_iff.mpr c17
       subst c17
       have H1 : (spec_ThroughPipe.j1 kj5 a1 l2 a3 a4 true x182000_5 x182001_5 x182002_5 x182003_5 x182004_5 x182005_5) = some (r1, r2) := by rw [if_neg (show ¬ (false = true) by decide)] at H; exact H
       clear H
       have H := H1
       clear H1
       have H' := Aside0.mk H
       clear H
       go_wp2_with (first | ((with_reducible refine gate_callee (f := 15) rfl ?_); refine goesL_ (some 20) rfl rfl Try.func15 (by kernel_rfl) rfl #[.int .i64 a1] rfl gZ ?_; (with_reducible refine (spec_l03Flow.calls a1 true _ A14.out).mono ?_); rintro e w' ⟨rfl, ⟨nd, rfl⟩⟩; refine ⟨_, rfl, ?_⟩) | (go_at_call 16; (with_reducible refine (spec_l03Degrees.calls a3 false _ A16.out).mono ?_); rintro e w' ⟨rfl, ⟨nd, rfl⟩⟩))
       go_meet
       case rel => exact ⟨_, (true), sZ, H', ⟨by have := HJ5.out; first | omega | exact Nat.le_refl _⟩, ⟨kZ BK181.out⟩, ⟨bZ⟩⟩
     ·replace c15 := Bool.eq_false_iff.mpr c15
      subst c15
      have H1 : (spec_ThroughPipe.j1 kj5 a1 l2 a3 a4 true x182000_5 x182001_5 x182002_5 x182003_5 x182004_5 x182005_5) = some (r1, r2) := by rw [if_neg (show ¬ (false = true) by decide)] at H; exact H
      clear H
      have H := H1
      clear H1
      have H' := Aside0.mk H
      clear H
      go_wp2_with (first | ((with_reducible refine gate_callee (f := 15) rfl ?_); refine goesL_ (some 20) rfl rfl Try.func15 (by kernel_rfl) rfl #[.int .i64 a1] rfl gZ ?_; (with_reducible refine (spec_l03Flow.calls a1 false _ A14.out).mono ?_); rintro e w' ⟨rfl, ⟨nd, rfl⟩⟩; refine ⟨_, rfl, ?_⟩))
      go_meet
      case rel => exact ⟨_, (true), sZ, H', ⟨by have := HJ5.out; first | omega | exact Nat.le_refl _⟩, ⟨kZ BK181.out⟩, ⟨bZ⟩⟩
    case rest =>
     clear HC13; (try clear c1); (try clear c2); (try clear p2); (try clear c6); (try clear c9); (try clear c12); (try clear c13); (try clear c15); (try clear c17); (try clear p2)
     obtain ⟨kq, x31_12, rfl, HA, HJ12, BK181, HB⟩ := hcut
     cases kq with
     | zero => exact absurd HA.out (by simp [spec_ThroughPipe.j1])
     | succ kj12 =>
      have H := HA.out
      clear HA
      simp only [spec_ThroughPipe.j1] at H
      by_cases c19 : x31_12 = true
      ·subst c19
       have H1 : (some (([] : List (S43)), 2)) = some (r1, r2) := by rw [if_pos rfl] at H; exact H
       clear H
       have H := H1
       clear H1
       simp only [Option.some.injEq, Prod.mk.injEq] at H
       obtain ⟨rfl, rfl⟩ := H
       go_wp2
       go_ret2
       exact ⟨_, eZ, by first | exact Kd.R_nil _ _ _ _ _ | exact Kd.N_nil _ _ _ _ _ | exact Kd.V_nil _ _ _ _ _ | exact Kd.Q_nil _ _ _ _ _ | exact Kd.S_nil _ _ _ _ _, bZ⟩
      ·replace c19 := Bool.eq_false_iff.mpr c19
       subst c19
       have H1 : (if a1 = 0 then (some (([] : List (S43)), 6)) else ((spec_l09Through.f kj12 x182000_5 x182001_5 x182002_5 x182003_5 x182004_5 x182005_5 a1 l2 a3 a4).bind fun t187 => ((spec_l09Done.f kj12 t187).bind fun bt190 => (some (bt190.1, bt190.2))))) = some (r1, r2) := by rw [if_neg (show ¬ (false = true) by decide)] at H; exact H
       clear H
       have H := H1
       clear H1
       by_cases c20 : a1 = 0
       ·rw [if_pos c20] at H
        have c20b0 : (a1 == 0) = true := beq_iff_eq.mpr c20
        have c20b1 : (a1 != 0) = false := bne_eq_false_iff_eq.mpr c20
        clear c20
        simp only [Option.some.injEq, Prod.mk.injEq] at H
        obtain ⟨rfl, rfl⟩ := H
        go_wp2
        go_ret2
        exact ⟨_, eZ, by first | exact Kd.R_nil _ _ _ _ _ | exact Kd.N_nil _ _ _ _ _ | exact Kd.V_nil _ _ _ _ _ | exact Kd.Q_nil _ _ _ _ _ | exact Kd.S_nil _ _ _ _ _, bZ⟩
       ·rw [if_neg c20] at H
        have c20b0 : (a1 == 0) = false := beq_eq_false_iff_ne.mpr c20
        have c20b1 : (a1 != 0) = true := bne_iff_ne.mpr c20
        replace H := Option.bind_eq_some_iff.mp H
        obtain ⟨t187, A210, H⟩ := H
        replace H : ((spec_l09Done.f kj12 t187).bind fun bt190 => (some (bt190.1, bt190.2))) = some (r1, r2) := H
        have A21 := Aside0.mk A210
        clear A210
        replace H := Option.bind_eq_some_iff.mp H
        obtain ⟨⟨t190, t191⟩, A220, H⟩ := H
        replace H : (some (t190, t191)) = some (r1, r2) := H
        have A22 := Aside0.mk A220
        clear A220
        simp only [Option.some.injEq, Prod.mk.injEq] at H
        obtain ⟨rfl, rfl⟩ := H
        go_wp2_with (first | ((with_reducible refine gate_callee (f := 18) rfl ?_); refine goesL_ (some 38) rfl rfl Try.func18 (by kernel_rfl) rfl #[.pointer (some ⟨gb181, 0, none⟩), .int .i64 a1, .slice A2 l2.length c2, .int .i64 a3, .int .i64 a4] rfl gZ ?_; (with_reducible refine (spec_l09Through.calls kj12 _ x182000_5 x182001_5 x182002_5 x182003_5 x182004_5 x182005_5 a1 _ _ l2 a3 a4 t187 _ ?side1 ?side2 ?side3 A21.out).mono ?_); (case side1 => repeat (first | exact (Kd.C_below HR2.out HB.out) | (with_reducible refine Kd.C_alloc ?_ _) | (with_reducible refine Kd.C_drewN ?_ _) | (with_reducible refine Kd.C_drew ?_))); (case side2 => exact HC2.out); (case side3 => exact ViewAt.of_blk (kZ BK181.out)); rintro e w23 ⟨v188, rfl, ho0, hb⟩; refine ⟨_, rfl, ?_⟩; have n0_ := Aside0.mk (Kd.R_lower ho0 bsZ); have n1_ := Aside0.mk (blk_below (g := gb181) (o := .cells #[.string x182000_5, .int .i64 x182001_5, .int .i64 x182002_5, .int .i64 x182003_5, .int .i64 x182004_5, .int .i64 x182005_5] 30 (0, 0)) (kZ BK181.out) hb); have n2_ := Aside0.mk (below_step bZ hb); clear BK181; clear HB; have HO189 := n0_; have BK181 := n1_; have HB := n2_; clear n0_ n1_ n2_; (try clear hb); (try clear hb2); (try clear hk); (try clear hi); (try clear ho0); obtain ⟨Ao24, co24, eo24⟩ := Kd.R_slice HO189.out; subst eo24) | ((with_reducible refine gate_callee (f := 17) rfl ?_); refine goesL_ (some 39) rfl rfl Try.func17 (by kernel_rfl) rfl #[.slice Ao24 t187.length co24] rfl gZ ?_; (with_reducible refine (spec_l09Done.calls kj12 _ _ t187 t190 t191 _ ?side1 ?side2 A22.out).mono ?_); (case side1 => exact Kd.cZ HO189.out); (case side2 => exact (Kd.R_reads' HO189.out).2.1); rintro e w25 ⟨v192, rfl, ho0, hb⟩; refine ⟨_, rfl, ?_⟩; have n0_ := Aside0.mk (Kd.R_elder' (Kd.rZ HO189.out) (Kd.R_base ho0) hb); have n1_ := Aside0.mk (Kd.R_lower (Kd.R_new' ho0 (Kd.R_lt (Kd.rZ HO189.out))) bsZ); have n2_ := Aside0.mk (blk_below (g := gb181) (o := .cells #[.string x182000_5, .int .i64 x182001_5, .int .i64 x182002_5, .int .i64 x182003_5, .int .i64 x182004_5, .int .i64 x182005_5] 30 (0, 0)) (kZ BK181.out) hb); have n3_ := Aside0.mk (below_step bZ hb); clear HO189; clear BK181; clear HB; have HO189 := n0_; have HO193 := n1_; have BK181 := n2_; have HB := n3_; clear n0_ n1_ n2_ n3_; (try clear hb); (try clear hb2); (try clear hk); (try clear hi); (try clear ho0)))
        go_ret2
        exact ⟨_, eZ, Kd.rZ (Kd.R_mono HO193.out (fun _ hk => trivial)), bZ⟩
end Go.Proofs.Ytahadhldokhifaa.XP
end

section
namespace Go.Proofs.Ytahadhldokhifaa.XP
open Go.RowKit Go.Proofs.YtahadhldokhifaaW.PrintWords Go.Proofs.YtahadhldokhifaaW.PrintLast Go.Proofs.YtahadhldokhifaaW.PrintMore
attribute [local go_sem] run_eql_slice_nil binOp_string_gtr' binOp_string_leq' binOp_string_geq' max2_int min2_int max_two min_two max_three min_three max_four min_four   -- for this text's walks alone
set_option linter.unusedVariables false
set_option linter.unusedSimpArgs false
def laws_toPipe.f (a0_0 : ByteArray) (a0_1 : Int) (a0_2 : Int) (a0_3 : Int) (a0_4 : Int) (a0_5 : Int) : Option (ByteArray × Int × Int × Int × Int × Int) := some (a0_0, a0_1, a0_2, a0_3, a0_4, a0_5)
set_option maxHeartbeats 8000000 in
set_option maxRecDepth 100000 in
theorem laws_toPipe.calls (a0_0 : ByteArray) (a0_1 : Int) (a0_2 : Int) (a0_3 : Int) (a0_4 : Int) (a0_5 : Int) (r1 : ByteArray) (r2 : Int) (r3 : Int) (r4 : Int) (r5 : Int) (r6 : Int) (w : World) (h : laws_toPipe.f a0_0 a0_1 a0_2 a0_3 a0_4 a0_5 = some (r1, r2, r3, r4, r5, r6)) :
  Calls Try.prog 7 #[.agg #[.string a0_0, .int .i64 a0_1, .int .i64 a0_2, .int .i64 a0_3, .int .i64 a0_4, .int .i64 a0_5]] w fun e w' => e = .returned (.agg #[.string r1, .int .i64 r2, .int .i64 r3, .int .i64 r4, .int .i64 r5, .int .i64 r6]) ∧ Below w.heap.size w w' := by
 have hu23 := Try.underlying23
 have hu30 := Try.underlying30
 have HB := Aside0.mk (Below.refl w.heap.size w)
 have H : (some (a0_0, a0_1, a0_2, a0_3, a0_4, a0_5)) = some (r1, r2, r3, r4, r5, r6) := h
 clear h
 simp only [Option.some.injEq, Prod.mk.injEq] at H
 obtain ⟨rfl, rfl, rfl, rfl, rfl, rfl⟩ := H
 go_enter Try.func7, Try.ntmps7
 go_wp2_with (first | ((with_reducible refine gate_dst (N := 1) rfl ?_); refine boxZ 1 #[.string a0_0, .int .i64 a0_1, .int .i64 a0_2, .int .i64 a0_3, .int .i64 a0_4, .int .i64 a0_5] 23 rfl rfl ?_; intro gb194 hg w2 hbox hb; have n0_ := Aside0.mk (below_step bZ hb); have n1_ := Aside0.mk (hbox); have n2_ := Aside0.mk ((by rw [hg]; exact bsZ : w.heap.size ≤ gb194)); have n3_ := Aside0.mk ((by rw [hg]; exact bsZ : w.heap.size ≤ gb194)); clear HB; have HB := n0_; have BK194 := n1_; have GW194 := n2_; have GE194 := n3_; clear n0_ n1_ n2_ n3_; clear hb hbox hg) | ((with_reducible refine gate_dst (N := 2) rfl ?_); refine boxZ 2 #[.string (⟨#[]⟩ : ByteArray), .int .i64 0, .int .i64 0, .int .i64 0, .int .i64 0, .int .i64 0] 30 rfl rfl ?_; intro gb195 hg w3 hbox hb; have n0_ := Aside0.mk (blk_below (g := gb194) (o := .cells #[.string a0_0, .int .i64 a0_1, .int .i64 a0_2, .int .i64 a0_3, .int .i64 a0_4, .int .i64 a0_5] 23 (0, 0)) (kZ BK194.out) hb); have n1_ := Aside0.mk (below_step bZ hb); have n2_ := Aside0.mk (hbox); have n3_ := Aside0.mk ((by rw [hg]; exact bsZ : w.heap.size ≤ gb195)); have n4_ := Aside0.mk ((by rw [hg]; exact bsZ : w.heap.size ≤ gb195)); have n5_ := Aside0.mk ((by rw [hg]; exact Nat.ne_of_lt (blk_lt (g := gb194) (o := .cells #[.string a0_0, .int .i64 a0_1, .int .i64 a0_2, .int .i64 a0_3, .int .i64 a0_4, .int .i64 a0_5] 23 (0, 0)) (kZ BK194.out)) : gb194 ≠ gb195)); have n6_ := Aside0.mk ((by rw [hg]; exact Nat.ne_of_gt (blk_lt (g := gb194) (o := .cells #[.string a0_0, .int .i64 a0_1, .int .i64 a0_2, .int .i64 a0_3, .int .i64 a0_4, .int .i64 a0_5] 23 (0, 0)) (kZ BK194.out)) : gb195 ≠ gb194)); clear BK194; clear HB; have BK194 := n0_; have HB := n1_; have BK195 := n2_; have GW195 := n3_; have GE195 := n4_; have NB194_195 := n5_; have NB195_194 := n6_; clear n0_ n1_ n2_ n3_ n4_ n5_ n6_; clear hb hbox hg) | ((with_reducible refine gate_dst (N := 3) rfl ?_); refine boxZ 3 #[.string (⟨#[]⟩ : ByteArray), .int .i64 0, .int .i64 0, .int .i64 0, .int .i64 0, .int .i64 0] 30 rfl rfl ?_; intro gb196 hg w4 hbox hb; have n0_ := Aside0.mk (blk_below (g := gb194) (o := .cells #[.string a0_0, .int .i64 a0_1, .int .i64 a0_2, .int .i64 a0_3, .int .i64 a0_4, .int .i64 a0_5] 23 (0, 0)) (kZ BK194.out) hb); have n1_ := Aside0.mk (blk_below (g := gb195) (o := .cells #[.string (⟨#[]⟩ : ByteArray), .int .i64 0, .int .i64 0, .int .i64 0, .int .i64 0, .int .i64 0] 30 (0, 0)) (kZ BK195.out) hb); have n2_ := Aside0.mk (below_step bZ hb); have n3_ := Aside0.mk (hbox); have n4_ := Aside0.mk ((by rw [hg]; exact bsZ : w.heap.size ≤ gb196)); have n5_ := Aside0.mk ((by rw [hg]; exact bsZ : w.heap.size ≤ gb196)); have n6_ := Aside0.mk ((by rw [hg]; exact Nat.ne_of_lt (blk_lt (g := gb194) (o := .cells #[.string a0_0, .int .i64 a0_1, .int .i64 a0_2, .int .i64 a0_3, .int .i64 a0_4, .int .i64 a0_5] 23 (0, 0)) (kZ BK194.out)) : gb194 ≠ gb196)); have n7_ := Aside0.mk ((by rw [hg]; exact Nat.ne_of_gt (blk_lt (g := gb194) (o := .cells #[.string a0_0, .int .i64 a0_1, .int .i64 a0_2, .int .i64 a0_3, .int .i64 a0_4, .int .i64 a0_5] 23 (0, 0)) (kZ BK194.out)) : gb196 ≠ gb194)); have n8_ := Aside0.mk ((by rw [hg]; exact Nat.ne_of_lt (blk_lt (g := gb195) (o := .cells #[.string (⟨#[]⟩ : ByteArray), .int .i64 0, .int .i64 0, .int .i64 0, .int .i64 0, .int .i64 0] 30 (0, 0)) (kZ BK195.out)) : gb195 ≠ gb196)); have n9_ := Aside0.mk ((by rw [hg]; exact Nat.ne_of_gt (blk_lt (g := gb195) (o := .cells #[.string (⟨#[]⟩ : ByteArray), .int .i64 0, .int .i64 0, .int .i64 0, .int .i64 0, .int .i64 0] 30 (0, 0)) (kZ BK195.out)) : gb196 ≠ gb195)); clear BK194; clear BK195; clear HB; have BK194 := n0_; have BK195 := n1_; have HB := n2_; have BK196 := n3_; have GW196 := n4_; have GE196 := n5_; have NB194_196 := n6_; have NB196_194 := n7_; have NB195_196 := n8_; have NB196_195 := n9_; clear n0_ n1_ n2_ n3_ n4_ n5_ n6_ n7_ n8_ n9_; clear hb hbox hg; have hnb5 := NB194_195.out; have hnc5 := NB195_194.out; have hnb6 := NB194_196.out; have hnc6 := NB196_194.out; have hcz7_0 := bc0 BK194.out; have hcz7_1 := bc1 BK194.out; have hcz7_2 := bc2 BK194.out; have hcz7_3 := bc3 BK194.out; have hcz7_4 := bc4 BK194.out; have hcz7_5 := bc5 BK194.out; have hfz7_0 := blk_frozen BK194.out 0; have hfz7_1 := blk_frozen BK194.out 1; have hfz7_2 := blk_frozen BK194.out 2; have hfz7_3 := blk_frozen BK194.out 3; have hfz7_4 := blk_frozen BK194.out 4; have hfz7_5 := blk_frozen BK194.out 5; have hnb8 := NB196_195.out; have hnc8 := NB195_196.out; have hcz9_0 := bc0 BK196.out; have hcz9_1 := bc1 BK196.out; have hcz9_2 := bc2 BK196.out; have hcz9_3 := bc3 BK196.out; have hcz9_4 := bc4 BK196.out; have hcz9_5 := bc5 BK196.out; have hfz9_0 := blk_frozen BK196.out 0; have hfz9_1 := blk_frozen BK196.out 1; have hfz9_2 := blk_frozen BK196.out 2; have hfz9_3 := blk_frozen BK196.out 3; have hfz9_4 := blk_frozen BK196.out 4; have hfz9_5 := blk_frozen BK196.out 5; have hcz10_0 := bc0 BK195.out; have hcz10_1 := bc1 BK195.out; have hcz10_2 := bc2 BK195.out; have hcz10_3 := bc3 BK195.out; have hcz10_4 := bc4 BK195.out; have hcz10_5 := bc5 BK195.out; have hfz10_0 := blk_frozen BK195.out 0; have hfz10_1 := blk_frozen BK195.out 1; have hfz10_2 := blk_frozen BK195.out 2; have hfz10_3 := blk_frozen BK195.out 3; have hfz10_4 := blk_frozen BK195.out 4; have hfz10_5 := blk_frozen BK195.out 5))
 refine bodyPost_ret (results_cell_row rfl _ _ gb195 30 #[.string a0_0, .int .i64 a0_1, .int .i64 a0_2, .int .i64 a0_3, .int .i64 a0_4, .int .i64 a0_5] (0, 0) _ rfl (by (with_reducible repeat (first | refine blk_drewN ?_ _ | refine blk_drew ?_ | refine blk_alloc ?_ _)); refine blk_put (cs := #[.string a0_0, .int .i64 a0_1, .int .i64 a0_2, .int .i64 a0_3, .int .i64 a0_4, .int .i64 0]) ?_ 5 _ rfl; (with_reducible repeat (first | refine blk_drewN ?_ _ | refine blk_drew ?_ | refine blk_alloc ?_ _)); refine blk_put (cs := #[.string a0_0, .int .i64 a0_1, .int .i64 a0_2, .int .i64 a0_3, .int .i64 0, .int .i64 0]) ?_ 4 _ rfl; (with_reducible repeat (first | refine blk_drewN ?_ _ | refine blk_drew ?_ | refine blk_alloc ?_ _)); refine blk_put (cs := #[.string a0_0, .int .i64 a0_1, .int .i64 a0_2, .int .i64 0, .int .i64 0, .int .i64 0]) ?_ 3 _ rfl; (with_reducible repeat (first | refine blk_drewN ?_ _ | refine blk_drew ?_ | refine blk_alloc ?_ _)); refine blk_put (cs := #[.string a0_0, .int .i64 a0_1, .int .i64 0, .int .i64 0, .int .i64 0, .int .i64 0]) ?_ 2 _ rfl; (with_reducible repeat (first | refine blk_drewN ?_ _ | refine blk_drew ?_ | refine blk_alloc ?_ _)); refine blk_put (cs := #[.string a0_0, .int .i64 0, .int .i64 0, .int .i64 0, .int .i64 0, .int .i64 0]) ?_ 1 _ rfl; (with_reducible repeat (first | refine blk_drewN ?_ _ | refine blk_drew ?_ | refine blk_alloc ?_ _)); refine blk_put (cs := #[.string (⟨#[]⟩ : ByteArray), .int .i64 0, .int .i64 0, .int .i64 0, .int .i64 0, .int .i64 0]) ?_ 0 _ rfl; (with_reducible repeat (first | refine blk_drewN ?_ _ | refine blk_drew ?_ | refine blk_alloc ?_ _)); refine blk_far ?_ NB195_196.out _; (with_reducible repeat (first | refine blk_drewN ?_ _ | refine blk_drew ?_ | refine blk_alloc ?_ _)); refine blk_far ?_ NB195_196.out _; (with_reducible repeat (first | refine blk_drewN ?_ _ | refine blk_drew ?_ | refine blk_alloc ?_ _)); refine blk_far ?_ NB195_196.out _; (with_reducible repeat (first | refine blk_drewN ?_ _ | refine blk_drew ?_ | refine blk_alloc ?_ _)); refine blk_far ?_ NB195_196.out _; (with_reducible repeat (first | refine blk_drewN ?_ _ | refine blk_drew ?_ | refine blk_alloc ?_ _)); refine blk_far ?_ NB195_196.out _; (with_reducible repeat (first | refine blk_drewN ?_ _ | refine blk_drew ?_ | refine blk_alloc ?_ _)); refine blk_far ?_ NB195_196.out _; (with_reducible repeat (first | refine blk_drewN ?_ _ | refine blk_drew ?_ | refine blk_alloc ?_ _)); exact BK195.out) Try.underlying30 rfl (by kernel_rfl)) rfl ?_
 exact ⟨eZ, bZ⟩
def laws_toStep.f (a0_0 : Int) (a0_1 : Int) : Option (Int × Int) := some (a0_0, a0_1)
set_option maxHeartbeats 8000000 in
set_option maxRecDepth 100000 in
theorem laws_toStep.calls (a0_0 : Int) (a0_1 : Int) (r1 : Int) (r2 : Int) (w : World) (h : laws_toStep.f a0_0 a0_1 = some (r1, r2)) :
  Calls Try.prog 19 #[.agg #[.int .i64 a0_0, .int .i64 a0_1]] w fun e w' => e = .returned (.agg #[.int .i64 r1, .int .i64 r2]) ∧ Below w.heap.size w w' := by
 have hu45 := Try.underlying45
 have hu43 := Try.underlying43
 have HB := Aside0.mk (Below.refl w.heap.size w)
 have H : (some (a0_0, a0_1)) = some (r1, r2) := h
 clear h
 simp only [Option.some.injEq, Prod.mk.injEq] at H
 obtain ⟨rfl, rfl⟩ := H
 go_enter Try.func19, Try.ntmps19
 go_wp2_with (first | ((with_reducible refine gate_dst (N := 1) rfl ?_); refine boxZ 1 #[.int .i64 a0_0, .int .i64 a0_1] 45 rfl rfl ?_; intro gb197 hg w2 hbox hb; have n0_ := Aside0.mk (below_step bZ hb); have n1_ := Aside0.mk (hbox); have n2_ := Aside0.mk ((by rw [hg]; exact bsZ : w.heap.size ≤ gb197)); have n3_ := Aside0.mk ((by rw [hg]; exact bsZ : w.heap.size ≤ gb197)); clear HB; have HB := n0_; have BK197 := n1_; have GW197 := n2_; have GE197 := n3_; clear n0_ n1_ n2_ n3_; clear hb hbox hg) | ((with_reducible refine gate_dst (N := 2) rfl ?_); refine boxZ 2 #[.int .i64 0, .int .i64 0] 43 rfl rfl ?_; intro gb198 hg w3 hbox hb; have n0_ := Aside0.mk (blk_below (g := gb197) (o := .cells #[.int .i64 a0_0, .int .i64 a0_1] 45 (0, 0)) (kZ BK197.out) hb); have n1_ := Aside0.mk (below_step bZ hb); have n2_ := Aside0.mk (hbox); have n3_ := Aside0.mk ((by rw [hg]; exact bsZ : w.heap.size ≤ gb198)); have n4_ := Aside0.mk ((by rw [hg]; exact bsZ : w.heap.size ≤ gb198)); have n5_ := Aside0.mk ((by rw [hg]; exact Nat.ne_of_lt (blk_lt (g := gb197) (o := .cells #[.int .i64 a0_0, .int .i64 a0_1] 45 (0, 0)) (kZ BK197.out)) : gb197 ≠ gb198)); have n6_ := Aside0.mk ((by rw [hg]; exact Nat.ne_of_gt (blk_lt (g := gb197) (o := .cells #[.int .i64 a0_0, .int .i64 a0_1] 45 (0, 0)) (kZ BK197.out)) : gb198 ≠ gb197)); clear BK197; clear HB; have BK197 := n0_; have HB := n1_; have BK198 := n2_; have GW198 := n3_; have GE198 := n4_; have NB197_198 := n5_; have NB198_197 := n6_; clear n0_ n1_ n2_ n3_ n4_ n5_ n6_; clear hb hbox hg) | ((with_reducible refine gate_dst (N := 3) rfl ?_); refine boxZ 3 #[.int .i64 0, .int .i64 0] 43 rfl rfl ?_; intro gb199 hg w4 hbox hb; have n0_ := Aside0.mk (blk_below (g := gb197) (o := .cells #[.int .i64 a0_0, .int .i64 a0_1] 45 (0, 0)) (kZ BK197.out) hb); have n1_ := Aside0.mk (blk_below (g := gb198) (o := .cells #[.int .i64 0, .int .i64 0] 43 (0, 0)) (kZ BK198.out) hb); have n2_ := Aside0.mk (below_step bZ hb); have n3_ := Aside0.mk (hbox); have n4_ := Aside0.mk ((by rw [hg]; exact bsZ : w.heap.size ≤ gb199)); have n5_ := Aside0.mk ((by rw [hg]; exact bsZ : w.heap.size ≤ gb199)); have n6_ := Aside0.mk ((by rw [hg]; exact Nat.ne_of_lt (blk_lt (g := gb197) (o := .cells #[.int .i64 a0_0, .int .i64 a0_1] 45 (0, 0)) (kZ BK197.out)) : gb197 ≠ gb199)); have n7_ := Aside0.mk ((by rw [hg]; exact Nat.ne_of_gt (blk_lt (g := gb197) (o := .cells #[.int .i64 a0_0, .int .i64 a0_1] 45 (0, 0)) (kZ BK197.out)) : gb199 ≠ gb197)); have n8_ := Aside0.mk ((by rw [hg]; exact Nat.ne_of_lt (blk_lt (g := gb198) (o := .cells #[.int .i64 0, .int .i64 0] 43 (0, 0)) (kZ BK198.out)) : gb198 ≠ gb199)); have n9_ := Aside0.mk ((by rw [hg]; exact Nat.ne_of_gt (blk_lt (g := gb198) (o := .cells #[.int .i64 0, .int .i64 0] 43 (0, 0)) (kZ BK198.out)) : gb199 ≠ gb198)); clear BK197; clear BK198; clear HB; have BK197 := n0_; have BK198 := n1_; have HB := n2_; have BK199 := n3_; have GW199 := n4_; have GE199 := n5_; have NB197_199 := n6_; have NB199_197 := n7_; have NB198_199 := n8_; have NB199_198 := n9_; clear n0_ n1_ n2_ n3_ n4_ n5_ n6_ n7_ n8_ n9_; clear hb hbox hg; have hnb5 := NB197_198.out; have hnc5 := NB198_197.out; have hnb6 := NB197_199.out; have hnc6 := NB199_197.out; have hcz7_0 := bc0 BK197.out; have hcz7_1 := bc1 BK197.out; have hfz7_0 := blk_frozen BK197.out 0; have hfz7_1 := blk_frozen BK197.out 1; have hnb8 := NB199_198.out; have hnc8 := NB198_199.out; have hcz9_0 := bc0 BK199.out; have hcz9_1 := bc1 BK199.out; have hfz9_0 := blk_frozen BK199.out 0; have hfz9_1 := blk_frozen BK199.out 1; have hcz10_0 := bc0 BK198.out; have hcz10_1 := bc1 BK198.out; have hfz10_0 := blk_frozen BK198.out 0; have hfz10_1 := blk_frozen BK198.out 1))
 refine bodyPost_ret (results_cell_row rfl _ _ gb198 43 #[.int .i64 a0_0, .int .i64 a0_1] (0, 0) _ rfl (by (with_reducible repeat (first | refine blk_drewN ?_ _ | refine blk_drew ?_ | refine blk_alloc ?_ _)); refine blk_put (cs := #[.int .i64 a0_0, .int .i64 0]) ?_ 1 _ rfl; (with_reducible repeat (first | refine blk_drewN ?_ _ | refine blk_drew ?_ | refine blk_alloc ?_ _)); refine blk_put (cs := #[.int .i64 0, .int .i64 0]) ?_ 0 _ rfl; (with_reducible repeat (first | refine blk_drewN ?_ _ | refine blk_drew ?_ | refine blk_alloc ?_ _)); refine blk_far ?_ NB198_199.out _; (with_reducible repeat (first | refine blk_drewN ?_ _ | refine blk_drew ?_ | refine blk_alloc ?_ _)); refine blk_far ?_ NB198_199.out _; (with_reducible repeat (first | refine blk_drewN ?_ _ | refine blk_drew ?_ | refine blk_alloc ?_ _)); exact BK198.out) Try.underlying43 rfl (by kernel_rfl)) rfl ?_
 exact ⟨eZ, bZ⟩
def laws_toStepS.l0 : Nat → List (S45) → List (S43) → Int → Option ((List (S43)))
 | 0, _, _, _ => none
 | k + 1, x0, x3, x4 => if x4 < (x0.length : Int) then (if 0 ≤ x4 then ((laws_toStep.f ((rd_T45 x0 x4).f0) ((rd_T45 x0 x4).f1)).bind fun bt204 => (if x4 < (x3.length : Int) then (laws_toStepS.l0 k x0 (x3.set (x4 : Int).toNat (⟨bt204.1, bt204.2⟩ : S43)) (wrap64 (x4 + 1))) else (none))) else (none)) else (some x3)
def laws_toStepS.f (k : Nat) (l0 : List (S45)) : Option ((List (S43))) := if 0 ≤ (l0.length : Int) then (if ((l0.length : Int) : Int).toNat ≤ 17592186044416 then (laws_toStepS.l0 k l0 (List.replicate ((l0.length : Int) : Int).toNat z43) 0) else (none)) else (none)
set_option maxHeartbeats 8000000 in
set_option maxRecDepth 100000 in
theorem laws_toStepS.calls (k : Nat) (A0 : Option Addr) (c0 : Nat) (l0 : List (S45)) (r : List (S43)) (w : World) (hr0 : Kd.C k45 w A0 l0.length l0) (hc0 : l0.length ≤ c0) (h : laws_toStepS.f k l0 = some r) :
  Calls Try.prog 8 #[.slice A0 l0.length c0] w fun e w' => ∃ v0_ : Value, e = .returned (v0_) ∧ Kd.R k43 43 w' w.heap.size (fun _ => True) v0_ r ∧ Below w.heap.size w w' := by
 have hu45 := Try.underlying45
 have hu43 := Try.underlying43
 have HR0 := Aside0.mk hr0
 have HC0 := Aside0.mk hc0
 clear hr0 hc0
 have HB := Aside0.mk (Below.refl w.heap.size w)
 have H : (if 0 ≤ (l0.length : Int) then (if ((l0.length : Int) : Int).toNat ≤ 17592186044416 then (laws_toStepS.l0 k l0 (List.replicate ((l0.length : Int) : Int).toNat z43) 0) else (none)) else (none)) = some r := h
 clear h
 by_cases c2 : 0 ≤ (l0.length : Int)
 ·rw [if_pos c2] at H
  have c2b0 := eq_true c2
  have c2b1 : decide (0 ≤ (l0.length : Int)) = true := decide_eq_true c2
  clear c2
  by_cases c3 : ((l0.length : Int) : Int).toNat ≤ 17592186044416
  ·rw [if_pos c3] at H
   have c3b0 := eq_true c3
   have c3b1 : decide (((l0.length : Int) : Int).toNat ≤ 17592186044416) = true := decide_eq_true c3
   clear c3
   obtain ⟨y200, hy200⟩ : ∃ y_ : List (S43), y_ = (List.replicate ((l0.length : Int) : Int).toNat z43) := ⟨_, rfl⟩
   replace H : (laws_toStepS.l0 k l0 y200 0) = some r := by first | (rw [hy200]; with_reducible exact H) | (have H2_ := (Option.bind_some _ _).symm.trans H; rw [hy200]; with_reducible exact H2_) | (have H2_ := (Option.bind_some _ _).symm.trans H; with_reducible exact H2_) | with_reducible exact H | (rw [hy200]; exact H) | exact H
   have Ny200 := Aside0.mk hy200
   clear hy200
   have H' := Aside0.mk H
   clear H
   go_enter Try.func8, Try.ntmps8
   go_wp2_with (first | ((with_reducible refine gate_dst (N := 7) rfl ?_); refine Kd.R_make k43 _ 43 rfl (N := 7) rfl 27 _ _ rfl (l0.length : Int) rfl rfl Try.underlying27 (.agg #[(.int .i64 0), (.int .i64 0)]) 16 info43 rfl (by decide) (by omega) z43 (ok := fun _ => True) (okp := fun _ => True) (k43_mkM _ _ _ z43 ) (fun _ hk => hk) trivial oZ (Nat.le_trans (Nat.mul_le_mul_right _ (oZ : (l0.length : Int).toNat ≤ 17592186044416)) (by omega)) (Below.refl _ _) (Nat.le_refl _) ?_; intro v201 w4 ho5 hb hg_ hnew_; clear hg_ hnew_; (first | rw [← Ny200.out] at ho5 | (simp only [Int.reduceToNat] at ho5; rw [← Ny200.out] at ho5)); have n0_ := Aside0.mk (Kd.R_lower ho5 bsZ); have n1_ := Aside0.mk (below_step bZ hb); clear HB; have HO202 := n0_; have HB := n1_; clear n0_ n1_; clear hb ho5))
   go_loopg [4] k (fun kq v4 w' => ∃ (x3_1 : List (S43)) (x4_1 : Int), v4 = .int .i64 x4_1 ∧ Aside0 (laws_toStepS.l0 kq l0 x3_1 x4_1 = some r) ∧ Aside0 (kq ≤ k) ∧ Aside0 (Kd.R k43 43 w' w.heap.size (fun _ => True) v201 x3_1) ∧ Aside0 (Below w.heap.size w w'))
   case atStart => exact ⟨(y200), (0), sZ, H', ⟨Nat.le_refl _⟩, ⟨Kd.rZ HO202.out⟩, ⟨bZ⟩⟩
   case round =>
    clear H'; (try clear c2); (try clear c2b0); (try clear c2b1); (try clear p2); (try clear c3); (try clear c3b0); (try clear c3b1)
    obtain ⟨x3_1, x4_1, rfl, HA, HK1, HO_3, HB⟩ := hrel
    cases gk with
    | zero => exact absurd HA.out (by simp [laws_toStepS.l0])
    | succ k1 =>
     have H := HA.out
     clear HA
     simp only [laws_toStepS.l0] at H
     by_cases c6 : x4_1 < (l0.length : Int)
     ·rw [if_pos c6] at H
      have c6b0 : decide (x4_1 < (l0.length : Int)) = true := decide_eq_true c6
      clear c6
      by_cases c7 : 0 ≤ x4_1
      ·rw [if_pos c7] at H
       have c7b0 : decide (0 ≤ x4_1) = true := decide_eq_true c7
       clear c7
       replace H := Option.bind_eq_some_iff.mp H
       obtain ⟨⟨t204, t205⟩, A80, H⟩ := H
       replace H : (if x4_1 < (x3_1.length : Int) then (laws_toStepS.l0 k1 l0 (x3_1.set (x4_1 : Int).toNat (⟨t204, t205⟩ : S43)) (wrap64 (x4_1 + 1))) else (none)) = some r := H
       have A8 := Aside0.mk A80
       clear A80
       by_cases c9 : x4_1 < (x3_1.length : Int)
       ·rw [if_pos c9] at H
        have c9b0 : decide (x4_1 < (x3_1.length : Int)) = true := decide_eq_true c9
        clear c9
        obtain ⟨y206, hy206⟩ : ∃ y_ : List (S43), y_ = (x3_1.set (x4_1 : Int).toNat (⟨t204, t205⟩ : S43)) := ⟨_, rfl⟩
        replace H : (laws_toStepS.l0 k1 l0 y206 (wrap64 (x4_1 + 1))) = some r := by first | (rw [hy206]; with_reducible exact H) | (have H2_ := (Option.bind_some _ _).symm.trans H; rw [hy206]; with_reducible exact H2_) | (have H2_ := (Option.bind_some _ _).symm.trans H; with_reducible exact H2_) | with_reducible exact H | (rw [hy206]; exact H) | exact H
        have Ny206 := Aside0.mk hy206
        clear hy206
        have H' := Aside0.mk H
        clear H
        have p203 : 0 ≤ (x4_1 : Int) := oZ
        have q203 : x4_1 < (l0.length : Int) := oZ
        obtain ⟨ad203, e203, hx203_0, hx203_1⟩ := at_T45 HR0.out x4_1 p203 q203
        cases e203
        replace hx203_0 := (HB.out.cell (World.block_lt_of_cell? w _ hx203_0)).trans hx203_0
        replace hx203_1 := (HB.out.cell (World.block_lt_of_cell? w _ hx203_1)).trans hx203_1
        replace p203 := eq_true p203
        replace q203 := eq_true q203
        go_wp2_with (first | ((with_reducible refine gate_callee (f := 19) rfl ?_); refine goesL_ (some 20) rfl rfl Try.func19 (by kernel_rfl) rfl #[.agg #[.int .i64 ((rd_T45 l0 x4_1).f0), .int .i64 ((rd_T45 l0 x4_1).f1)]] rfl gZ ?_; (with_reducible refine (laws_toStep.calls ((rd_T45 l0 x4_1).f0) ((rd_T45 l0 x4_1).f1) t204 t205 _ A8.out).mono ?_); rintro e w11 ⟨rfl, hb⟩; refine ⟨_, rfl, ?_⟩; have n0_ := Aside0.mk (Kd.R_below (Kd.rZ HO_3.out) hb); have n1_ := Aside0.mk (below_step bZ hb); clear HO_3; clear HB; have HO_3 := n0_; have HB := n1_; clear n0_ n1_; (try clear hb); (try clear hb2); (try clear hk); (try clear hi); have p10 : 0 ≤ (x4_1 : Int) := oZ; have q10 : (x4_1 : Int) < ((x3_1.length : Int) : Int) := oZ; obtain ⟨go10, co10, eo10, gb10, gl10, cl10, HG10⟩ := Kd.R_form HO_3.out (by omega); (first | cases eo10 | (injection eo10 with ea_ en_ ec_; (first | subst ea_ | (injection ea_ with ea_; subst ea_)); subst ec_; clear en_)); have GB10 := Aside0.mk gb10; have GG10 := Aside0.mk HG10; clear gb10 gl10 HG10; obtain ⟨ce10, hcl10, hM10, hcc10, hfr10⟩ := Kd.R_elem HO_3.out z43 (x4_1 : Int) p10 q10; obtain rfl := k43_openM hM10; have hx10_0 : w11.cell? ⟨go10, (x4_1 : Int).toNat * 2, none⟩ = some (.int .i64 ((rd_T43 x3_1 x4_1).f0)) := hcc10 0 _ rfl; have hx10_1 : w11.cell? ⟨go10, (x4_1 : Int).toNat * 2 + 1, none⟩ = some (.int .i64 ((rd_T43 x3_1 x4_1).f1)) := hcc10 1 _ rfl; have hf10_0 : w11.frozen? ⟨go10, (x4_1 : Int).toNat * 2, none⟩ = false := hfr10 0; have hf10_1 : w11.frozen? ⟨go10, (x4_1 : Int).toNat * 2 + 1, none⟩ = false := hfr10 1; clear hcl10 hcc10 hfr10; (try clear hM10); replace p10 := eq_true p10; replace q10 := eq_true q10; have HX12 := Aside0.mk (show Kd.R k43 43 w11 w.heap.size (fun _ => True) (.slice (some ⟨go10, 0, none⟩) x3_1.length co10) x3_1 from (Kd.rZ HO_3.out)); obtain ⟨ce12, hcl12, hM12, hcc12, hfr12⟩ := Kd.R_elem HX12.out z43 (x4_1 : Int) oZ (by have h_ : (x4_1 : Int) < ((x3_1.length : Int) : Int) := oZ; first | exact h_ | (have e_ := (Kd.R_reads' HO_3.out).1; omega) | simpa using h_); obtain rfl := k43_openM hM12; have HP12 := Kd.R_seg HX12.out (x4_1 : Int) oZ (by have h_ : (x4_1 : Int) < ((x3_1.length : Int) : Int) := oZ; first | exact h_ | (have e_ := (Kd.R_reads' HO_3.out).1; omega) | simpa using h_) (seg := [.int .i64 t204, .int .i64 t205]) (j := 0) hcl12 hcc12 (show 2 ≤ 2 from by decide) (x' := (⟨t204, t205⟩ : S43)) (k43_mkM _ _ _ (⟨t204, t205⟩ : S43) ) (fun _ hk => hk); have hx12_0 := hcc12 0 _ rfl; (try simp only [show (k43).sz = 2 from rfl, Nat.mul_one, Nat.add_zero] at hx12_0); have hf12_0 := hfr12 0; (try simp only [show (k43).sz = 2 from rfl, Nat.mul_one, Nat.add_zero] at hf12_0); have hx12_1 := hcc12 1 _ rfl; (try simp only [show (k43).sz = 2 from rfl, Nat.mul_one, Nat.add_zero] at hx12_1); have hf12_1 := hfr12 1; (try simp only [show (k43).sz = 2 from rfl, Nat.mul_one, Nat.add_zero] at hf12_1); clear hcl12 hcc12 hfr12; (try clear hM12)) | ((with_reducible refine gate_store (t := 43) (p := 21) rfl ?_); refine store_event (t := 43) (p := 21) (v := ?vo_w13) (w1 := ((w11.setCell ⟨go10, (x4_1 : Int).toNat * 2, none⟩ (.int .i64 t204)).setCell ⟨go10, (x4_1 : Int).toNat * 2 + 1, none⟩ (.int .i64 t205))) ?hg ?ho ?hn ?hr ?_; (case ho => rfl); (case hg => rfl); (case hn => rfl); (case hr => first | (go_simp; done) | (go_simp; rfl)); intro w13 hw; have hg : w11.grownBy w13 (some go10) := (by rw [hw]; exact HP12.2); have hp_ : Kd.R k43 43 w13 w.heap.size (fun _ => True) (.slice (some ⟨go10, 0, none⟩) x3_1.length co10) y206 := (by rw [hw, Ny206.out]; exact HP12.1); clear HP12; have n0_ := Aside0.mk (hp_); have n1_ := Aside0.mk ((by rw [hw]; exact below_set (below_set (HB.out) GB10.out) GB10.out : Below w.heap.size w w13)); clear HO_3; clear HB; have HO_3 := n0_; have HB := n1_; clear n0_ n1_; clear hg hw hp_))
        go_roundg k1
        case measure => have := HK1.out; omega
        case rel => exact ⟨(y206), (wrap64 (x4_1 + 1)), sZ, H', ⟨by have := HK1.out; omega⟩, ⟨Kd.rZ HO_3.out⟩, ⟨bZ⟩⟩
       ·rw [if_neg c9] at H
        exact absurd H (by simp)
      ·rw [if_neg c7] at H
       exact absurd H (by simp)
     ·rw [if_neg c6] at H
      have c6b0 : decide (x4_1 < (l0.length : Int)) = false := decide_eq_false c6
      clear c6
      obtain rfl := Option.some.inj H
      go_wp2
      go_ret
      exact ⟨_, eZ, Kd.rZ HO_3.out, bZ⟩
  ·rw [if_neg c3] at H
   exact absurd H (by simp)
 ·rw [if_neg c2] at H
  exact absurd H (by simp)
end Go.Proofs.Ytahadhldokhifaa.XP
end

section
namespace Go.Proofs.Ytahadhldokhifaa.XP
open Go.RowKit Go.Proofs.YtahadhldokhifaaW.PrintWords Go.Proofs.YtahadhldokhifaaW.PrintLast Go.Proofs.YtahadhldokhifaaW.PrintMore
attribute [local go_sem] run_eql_slice_nil binOp_string_gtr' binOp_string_leq' binOp_string_geq' max2_int min2_int max_two min_two max_three min_three max_four min_four   -- for this text's walks alone
set_option linter.unusedVariables false
set_option linter.unusedSimpArgs false
def impl_onlyNameBytes.l0 : Nat → ByteArray → Int → Int → Option (Bool)
 | 0, _, _, _ => none
 | k + 1, x0, x6, x7 => if x7 < x6 then (if 0 ≤ x7 then (if x7 < (x0.size : Int) then (if (bt x0 x7) < 97 then (if (bt x0 x7) < 48 then (some false) else (if (bt x0 x7) > 57 then (some false) else (impl_onlyNameBytes.l0 k x0 x6 (wrap64 (x7 + 1))))) else (if (bt x0 x7) > 122 then (if (bt x0 x7) < 48 then (some false) else (if (bt x0 x7) > 57 then (some false) else (impl_onlyNameBytes.l0 k x0 x6 (wrap64 (x7 + 1))))) else (impl_onlyNameBytes.l0 k x0 x6 (wrap64 (x7 + 1))))) else (none)) else (none)) else (some true)
def impl_onlyNameBytes.f (k : Nat) (a0 : ByteArray) : Option (Bool) := impl_onlyNameBytes.l0 k a0 (a0.size : Int) 0
set_option maxHeartbeats 8000000 in
set_option maxRecDepth 100000 in
theorem impl_onlyNameBytes.calls (k : Nat) (a0 : ByteArray) (r : Bool) (w : World) (h : impl_onlyNameBytes.f k a0 = some r) :
  Calls Try.prog 58 #[.string a0] w fun e w' => e = .returned (.bool r) ∧ Drawn0 w w' := by
 have H : (impl_onlyNameBytes.l0 k a0 (a0.size : Int) 0) = some r := h
 clear h
 have H' := Aside0.mk H
 clear H
 go_enter Try.func58, Try.ntmps58
 go_wp2
 go_loopg [7] k (fun kq v7 w' => ∃ (x7_1 : Int), v7 = .int .i64 x7_1 ∧ Aside0 (impl_onlyNameBytes.l0 kq a0 (a0.size : Int) x7_1 = some r) ∧ Aside0 (kq ≤ k) ∧ Drawn0 w w')
 case atStart => exact ⟨(0), sZ, H', ⟨Nat.le_refl _⟩, dZ⟩
 case round =>
  clear H'
  obtain ⟨x7_1, rfl, HA, HK1, ⟨m1, rfl⟩⟩ := hrel
  cases gk with
  | zero => exact absurd HA.out (by simp [impl_onlyNameBytes.l0])
  | succ k1 =>
   have H := HA.out
   clear HA
   simp only [impl_onlyNameBytes.l0] at H
   by_cases c2 : x7_1 < (a0.size : Int)
   ·rw [if_pos c2] at H
    have c2b0 : decide (x7_1 < (a0.size : Int)) = true := decide_eq_true c2
    clear c2
    by_cases c3 : 0 ≤ x7_1
    ·rw [if_pos c3] at H
     have c3b0 : decide (0 ≤ x7_1) = true := decide_eq_true c3
     clear c3
     by_cases c4 : x7_1 < (a0.size : Int)
     ·rw [if_pos c4] at H
      have c4b0 : decide (x7_1 < (a0.size : Int)) = true := decide_eq_true c4
      clear c4
      by_cases c6 : (bt a0 x7_1) < 97
      ·rw [if_pos c6] at H
       have c6b0 : decide ((bt a0 x7_1) < 97) = true := decide_eq_true c6
       clear c6
       by_cases c7 : (bt a0 x7_1) < 48
       ·rw [if_pos c7] at H
        have c7b0 : decide ((bt a0 x7_1) < 48) = true := decide_eq_true c7
        clear c7
        obtain rfl := Option.some.inj H
        have p5 : 0 ≤ (x7_1 : Int) := oZ
        have q5 : x7_1 < (a0.size : Int) := oZ
        have hx5 := bt_at a0 x7_1
        replace p5 := eq_true p5
        replace q5 := eq_true q5
        go_wp2
        go_ret
        exact ⟨sZ, dZ⟩
       ·rw [if_neg c7] at H
        have c7b0 : decide ((bt a0 x7_1) < 48) = false := decide_eq_false c7
        clear c7
        by_cases c8 : (bt a0 x7_1) > 57
        ·rw [if_pos c8] at H
         have c8b0 : decide (57 < (bt a0 x7_1)) = true := decide_eq_true c8
         clear c8
         obtain rfl := Option.some.inj H
         have p5 : 0 ≤ (x7_1 : Int) := oZ
         have q5 : x7_1 < (a0.size : Int) := oZ
         have hx5 := bt_at a0 x7_1
         replace p5 := eq_true p5
         replace q5 := eq_true q5
         go_wp2
         go_ret
         exact ⟨sZ, dZ⟩
        ·rw [if_neg c8] at H
         have c8b0 : decide (57 < (bt a0 x7_1)) = false := decide_eq_false c8
         clear c8
         have H' := Aside0.mk H
         clear H
         have p5 : 0 ≤ (x7_1 : Int) := oZ
         have q5 : x7_1 < (a0.size : Int) := oZ
         have hx5 := bt_at a0 x7_1
         replace p5 := eq_true p5
         replace q5 := eq_true q5
         go_wp2
         go_roundg k1
         case measure => have := HK1.out; omega
         case rel => exact ⟨(wrap64 (x7_1 + 1)), sZ, H', ⟨by have := HK1.out; omega⟩, dZ⟩
      ·rw [if_neg c6] at H
       have c6b0 : decide ((bt a0 x7_1) < 97) = false := decide_eq_false c6
       clear c6
       by_cases c9 : (bt a0 x7_1) > 122
       ·rw [if_pos c9] at H
        have c9b0 : decide (122 < (bt a0 x7_1)) = true := decide_eq_true c9
        clear c9
        by_cases c10 : (bt a0 x7_1) < 48
        ·rw [if_pos c10] at H
         have c10b0 : decide ((bt a0 x7_1) < 48) = true := decide_eq_true c10
         clear c10
         obtain rfl := Option.some.inj H
         have p5 : 0 ≤ (x7_1 : Int) := oZ
         have q5 : x7_1 < (a0.size : Int) := oZ
         have hx5 := bt_at a0 x7_1
         replace p5 := eq_true p5
         replace q5 := eq_true q5
         go_wp2
         go_ret
         exact ⟨sZ, dZ⟩
        ·rw [if_neg c10] at H
         have c10b0 : decide ((bt a0 x7_1) < 48) = false := decide_eq_false c10
         clear c10
         by_cases c11 : (bt a0 x7_1) > 57
         ·rw [if_pos c11] at H
          have c11b0 : decide (57 < (bt a0 x7_1)) = true := decide_eq_true c11
          clear c11
          obtain rfl := Option.some.inj H
          have p5 : 0 ≤ (x7_1 : Int) := oZ
          have q5 : x7_1 < (a0.size : Int) := oZ
          have hx5 := bt_at a0 x7_1
          replace p5 := eq_true p5
          replace q5 := eq_true q5
          go_wp2
          go_ret
          exact ⟨sZ, dZ⟩
         ·rw [if_neg c11] at H
          have c11b0 : decide (57 < (bt a0 x7_1)) = false := decide_eq_false c11
          clear c11
          have H' := Aside0.mk H
          clear H
          have p5 : 0 ≤ (x7_1 : Int) := oZ
          have q5 : x7_1 < (a0.size : Int) := oZ
          have hx5 := bt_at a0 x7_1
          replace p5 := eq_true p5
          replace q5 := eq_true q5
          go_wp2
          go_roundg k1
          case measure => have := HK1.out; omega
          case rel => exact ⟨(wrap64 (x7_1 + 1)), sZ, H', ⟨by have := HK1.out; omega⟩, dZ⟩
       ·rw [if_neg c9] at H
        have c9b0 : decide (122 < (bt a0 x7_1)) = false := decide_eq_false c9
        clear c9
        have H' := Aside0.mk H
        clear H
        have p5 : 0 ≤ (x7_1 : Int) := oZ
        have q5 : x7_1 < (a0.size : Int) := oZ
        have hx5 := bt_at a0 x7_1
        replace p5 := eq_true p5
        replace q5 := eq_true q5
        go_wp2
        go_roundg k1
        case measure => have := HK1.out; omega
        case rel => exact ⟨(wrap64 (x7_1 + 1)), sZ, H', ⟨by have := HK1.out; omega⟩, dZ⟩
     ·rw [if_neg c4] at H
      exact absurd H (by simp)
    ·rw [if_neg c3] at H
     exact absurd H (by simp)
   ·rw [if_neg c2] at H
    have c2b0 : decide (x7_1 < (a0.size : Int)) = false := decide_eq_false c2
    clear c2
    obtain rfl := Option.some.inj H
    go_wp2
    go_ret
    exact ⟨sZ, dZ⟩
end Go.Proofs.Ytahadhldokhifaa.XP
end
