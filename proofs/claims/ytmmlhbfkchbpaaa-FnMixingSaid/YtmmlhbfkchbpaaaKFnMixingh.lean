/- The law FnMixing: part 7 of its texts, joined (wip/pack.py). -/
import Derived.Test.YtmmlhbfkchbpaaaKFnMixinga
import Derived.Test.YtmmlhbfkchbpaaaKFnMixingb
import Derived.Test.YtmmlhbfkchbpaaaKFnMixingc
import Derived.Test.YtmmlhbfkchbpaaaKFnMixingd
import Derived.Test.YtmmlhbfkchbpaaaKFnMixinge
import Derived.Test.YtmmlhbfkchbpaaaKFnMixingf
import Derived.Test.YtmmlhbfkchbpaaaKFnMixingg

section
namespace Go.Proofs.Ytmmlhbfkchbpaaa.XX
open Go.RowKit Go.Proofs.YtmmlhbfkchbpaaaW.PrintWords Go.Proofs.YtmmlhbfkchbpaaaW.PrintLast Go.Proofs.YtmmlhbfkchbpaaaW.PrintMore
attribute [local go_sem] run_eql_slice_nil binOp_string_gtr' binOp_string_leq' binOp_string_geq' max2_int min2_int max_two min_two max_three min_three max_four min_four   -- for this text's walks alone
set_option linter.unusedVariables false
set_option linter.unusedSimpArgs false
def impl_Pipe_endTemperature.f (a0_0 : ByteArray) (a0_1 : Int) (a0_2 : Int) (a0_3 : Int) (a0_4 : Int) (a0_5 : Int) (a1 : Int) (a2 : Int) (a3 : Int) : Option (Int) := if a1 = 0 then (some a3) else ((impl_Pipe_loss.f a0_0 a0_1 a0_2 a0_3 a0_4 a0_5 a2 a3).bind fun t321 => ((impl_abs.f a1).bind fun t322 => ((impl_divRound.f (wrap64 (100000 * t321)) (wrap64 (4186 * t322))).bind fun t323 => (if a2 ≥ a3 then (some (mx (wrap64 (a2 - t323)) a3)) else (some (mn (wrap64 (a2 - t323)) a3))))))
set_option maxHeartbeats 8000000 in
set_option maxRecDepth 100000 in
theorem impl_Pipe_endTemperature.calls (a0_0 : ByteArray) (a0_1 : Int) (a0_2 : Int) (a0_3 : Int) (a0_4 : Int) (a0_5 : Int) (a1 : Int) (a2 : Int) (a3 : Int) (r : Int) (w : World) (h : impl_Pipe_endTemperature.f a0_0 a0_1 a0_2 a0_3 a0_4 a0_5 a1 a2 a3 = some r) :
  Calls Try.prog 41 #[.agg #[.string a0_0, .int .i64 a0_1, .int .i64 a0_2, .int .i64 a0_3, .int .i64 a0_4, .int .i64 a0_5], .int .i64 a1, .int .i64 a2, .int .i64 a3] w fun e w' => e = .returned (.int .i64 r) ∧ Below w.heap.size w w' := by
 have hu37 := Try.underlying37
 have HB := Aside0.mk (Below.refl w.heap.size w)
 have H : (if a1 = 0 then (some a3) else ((impl_Pipe_loss.f a0_0 a0_1 a0_2 a0_3 a0_4 a0_5 a2 a3).bind fun t321 => ((impl_abs.f a1).bind fun t322 => ((impl_divRound.f (wrap64 (100000 * t321)) (wrap64 (4186 * t322))).bind fun t323 => (if a2 ≥ a3 then (some (mx (wrap64 (a2 - t323)) a3)) else (some (mn (wrap64 (a2 - t323)) a3))))))) = some r := h
 clear h
 by_cases c5 : a1 = 0
 ·rw [if_pos c5] at H
  have c5b0 : (a1 == 0) = true := beq_iff_eq.mpr c5
  have c5b1 : (a1 != 0) = false := bne_eq_false_iff_eq.mpr c5
  clear c5
  obtain rfl := Option.some.inj H
  go_enter Try.func41, Try.ntmps41
  go_wp2_with (first | ((with_reducible refine gate_dst (N := 4) rfl ?_); refine boxZ 4 #[.string a0_0, .int .i64 a0_1, .int .i64 a0_2, .int .i64 a0_3, .int .i64 a0_4, .int .i64 a0_5] 37 rfl rfl ?_; intro gb320 hg w6 hbox hb; have n0_ := Aside0.mk (below_step bZ hb); have n1_ := Aside0.mk (hbox); have n2_ := Aside0.mk ((by rw [hg]; exact bsZ : w.heap.size ≤ gb320)); have n3_ := Aside0.mk ((by rw [hg]; exact bsZ : w.heap.size ≤ gb320)); clear HB; have HB := n0_; have BK320 := n1_; have GW320 := n2_; have GE320 := n3_; clear n0_ n1_ n2_ n3_; clear hb hbox hg))
  go_ret
  exact ⟨eZ, bZ⟩
 ·rw [if_neg c5] at H
  have c5b0 : (a1 == 0) = false := beq_eq_false_iff_ne.mpr c5
  have c5b1 : (a1 != 0) = true := bne_iff_ne.mpr c5
  replace H := Option.bind_eq_some_iff.mp H
  obtain ⟨t321, A70, H⟩ := H
  replace H : ((impl_abs.f a1).bind fun t322 => ((impl_divRound.f (wrap64 (100000 * t321)) (wrap64 (4186 * t322))).bind fun t323 => (if a2 ≥ a3 then (some (mx (wrap64 (a2 - t323)) a3)) else (some (mn (wrap64 (a2 - t323)) a3))))) = some r := H
  have A7 := Aside0.mk A70
  clear A70
  replace H := Option.bind_eq_some_iff.mp H
  obtain ⟨t322, A80, H⟩ := H
  replace H : ((impl_divRound.f (wrap64 (100000 * t321)) (wrap64 (4186 * t322))).bind fun t323 => (if a2 ≥ a3 then (some (mx (wrap64 (a2 - t323)) a3)) else (some (mn (wrap64 (a2 - t323)) a3)))) = some r := H
  have A8 := Aside0.mk A80
  clear A80
  replace H := Option.bind_eq_some_iff.mp H
  obtain ⟨t323, A90, H⟩ := H
  replace H : (if a2 ≥ a3 then (some (mx (wrap64 (a2 - t323)) a3)) else (some (mn (wrap64 (a2 - t323)) a3))) = some r := H
  have A9 := Aside0.mk A90
  clear A90
  by_cases c10 : a2 ≥ a3
  ·rw [if_pos c10] at H
   have c10b0 : decide (a3 ≤ a2) = true := decide_eq_true c10
   clear c10
   obtain ⟨ji11, hji11⟩ : ∃ j_ : Int, (mx (wrap64 (a2 - t323)) a3) = j_ := ⟨_, rfl⟩
   replace H : (some ji11) = some r := by first | (rw [hji11] at H; exact H) | (simp only [hji11] at H ⊢; exact H)
   (try rw [hji11] at A7)
   (try rw [hji11] at A8)
   (try rw [hji11] at A9)
   have hji11_ : (if (wrap64 (a2 - t323)) < a3 then a3 else (wrap64 (a2 - t323))) = ji11 := hji11
   obtain rfl := Option.some.inj H
   go_enter Try.func41, Try.ntmps41
   go_wp2_with (first | ((with_reducible refine gate_dst (N := 4) rfl ?_); refine boxZ 4 #[.string a0_0, .int .i64 a0_1, .int .i64 a0_2, .int .i64 a0_3, .int .i64 a0_4, .int .i64 a0_5] 37 rfl rfl ?_; intro gb320 hg w12 hbox hb; have n0_ := Aside0.mk (below_step bZ hb); have n1_ := Aside0.mk (hbox); have n2_ := Aside0.mk ((by rw [hg]; exact bsZ : w.heap.size ≤ gb320)); have n3_ := Aside0.mk ((by rw [hg]; exact bsZ : w.heap.size ≤ gb320)); clear HB; have HB := n0_; have BK320 := n1_; have GW320 := n2_; have GE320 := n3_; clear n0_ n1_ n2_ n3_; clear hb hbox hg; have hcz13_0 := bc0 BK320.out; have hcz13_1 := bc1 BK320.out; have hcz13_2 := bc2 BK320.out; have hcz13_3 := bc3 BK320.out; have hcz13_4 := bc4 BK320.out; have hcz13_5 := bc5 BK320.out; have hfz13_0 := blk_frozen BK320.out 0; have hfz13_1 := blk_frozen BK320.out 1; have hfz13_2 := blk_frozen BK320.out 2; have hfz13_3 := blk_frozen BK320.out 3; have hfz13_4 := blk_frozen BK320.out 4; have hfz13_5 := blk_frozen BK320.out 5) | ((with_reducible refine gate_callee (f := 63) rfl ?_); refine goesL_ (some 17) rfl rfl Try.func63 (by kernel_rfl) rfl #[.agg #[.string a0_0, .int .i64 a0_1, .int .i64 a0_2, .int .i64 a0_3, .int .i64 a0_4, .int .i64 a0_5], .int .i64 a2, .int .i64 a3] rfl gZ ?_; (with_reducible refine (impl_Pipe_loss.calls a0_0 a0_1 a0_2 a0_3 a0_4 a0_5 a2 a3 t321 _ A7.out).mono ?_); rintro e w14 ⟨rfl, hb⟩; refine ⟨_, rfl, ?_⟩; have n0_ := Aside0.mk (blk_below (g := gb320) (o := .cells #[.string a0_0, .int .i64 a0_1, .int .i64 a0_2, .int .i64 a0_3, .int .i64 a0_4, .int .i64 a0_5] 37 (0, 0)) (kZ BK320.out) hb); have n1_ := Aside0.mk (below_step bZ hb); clear BK320; clear HB; have BK320 := n0_; have HB := n1_; clear n0_ n1_; (try clear hb); (try clear hb2); (try clear hk); (try clear hi)) | ((with_reducible refine gate_callee (f := 55) rfl ?_); refine goesL_ (some 20) rfl rfl Try.func55 (by kernel_rfl) rfl #[.int .i64 a1] rfl gZ ?_; (with_reducible refine (impl_abs.calls a1 t322 _ A8.out).mono ?_); rintro e w15 ⟨rfl, hb⟩; refine ⟨_, rfl, ?_⟩; have n0_ := Aside0.mk (blk_below (g := gb320) (o := .cells #[.string a0_0, .int .i64 a0_1, .int .i64 a0_2, .int .i64 a0_3, .int .i64 a0_4, .int .i64 a0_5] 37 (0, 0)) (kZ BK320.out) hb); have n1_ := Aside0.mk (below_step bZ hb); clear BK320; clear HB; have BK320 := n0_; have HB := n1_; clear n0_ n1_; (try clear hb); (try clear hb2); (try clear hk); (try clear hi)) | ((with_reducible refine gate_callee (f := 28) rfl ?_); refine goesL_ (some 22) rfl rfl Try.func28 (by kernel_rfl) rfl #[.int .i64 (wrap64 (100000 * t321)), .int .i64 (wrap64 (4186 * t322))] rfl gZ ?_; (with_reducible refine (impl_divRound.calls (wrap64 (100000 * t321)) (wrap64 (4186 * t322)) t323 _ A9.out).mono ?_); rintro e w16 ⟨rfl, hb⟩; refine ⟨_, rfl, ?_⟩; have n0_ := Aside0.mk (blk_below (g := gb320) (o := .cells #[.string a0_0, .int .i64 a0_1, .int .i64 a0_2, .int .i64 a0_3, .int .i64 a0_4, .int .i64 a0_5] 37 (0, 0)) (kZ BK320.out) hb); have n1_ := Aside0.mk (below_step bZ hb); clear BK320; clear HB; have BK320 := n0_; have HB := n1_; clear n0_ n1_; (try clear hb); (try clear hb2); (try clear hk); (try clear hi)))
   go_ret
   exact ⟨by first | rfl | (simp [errW_none, errW_some] <;> rfl) | (simp only [← hji11]; first | rfl | (simp [errW_none, errW_some] <;> rfl)) | (simp [*, errW_none, errW_some] <;> rfl), bZ⟩
  ·rw [if_neg c10] at H
   have c10b0 : decide (a3 ≤ a2) = false := decide_eq_false c10
   clear c10
   obtain ⟨ji17, hji17⟩ : ∃ j_ : Int, (mn (wrap64 (a2 - t323)) a3) = j_ := ⟨_, rfl⟩
   replace H : (some ji17) = some r := by first | (rw [hji17] at H; exact H) | (simp only [hji17] at H ⊢; exact H)
   (try rw [hji17] at A7)
   (try rw [hji17] at A8)
   (try rw [hji17] at A9)
   have hji17_ : (if a3 < (wrap64 (a2 - t323)) then a3 else (wrap64 (a2 - t323))) = ji17 := hji17
   obtain rfl := Option.some.inj H
   go_enter Try.func41, Try.ntmps41
   go_wp2_with (first | ((with_reducible refine gate_dst (N := 4) rfl ?_); refine boxZ 4 #[.string a0_0, .int .i64 a0_1, .int .i64 a0_2, .int .i64 a0_3, .int .i64 a0_4, .int .i64 a0_5] 37 rfl rfl ?_; intro gb320 hg w18 hbox hb; have n0_ := Aside0.mk (below_step bZ hb); have n1_ := Aside0.mk (hbox); have n2_ := Aside0.mk ((by rw [hg]; exact bsZ : w.heap.size ≤ gb320)); have n3_ := Aside0.mk ((by rw [hg]; exact bsZ : w.heap.size ≤ gb320)); clear HB; have HB := n0_; have BK320 := n1_; have GW320 := n2_; have GE320 := n3_; clear n0_ n1_ n2_ n3_; clear hb hbox hg; have hcz19_0 := bc0 BK320.out; have hcz19_1 := bc1 BK320.out; have hcz19_2 := bc2 BK320.out; have hcz19_3 := bc3 BK320.out; have hcz19_4 := bc4 BK320.out; have hcz19_5 := bc5 BK320.out; have hfz19_0 := blk_frozen BK320.out 0; have hfz19_1 := blk_frozen BK320.out 1; have hfz19_2 := blk_frozen BK320.out 2; have hfz19_3 := blk_frozen BK320.out 3; have hfz19_4 := blk_frozen BK320.out 4; have hfz19_5 := blk_frozen BK320.out 5) | ((with_reducible refine gate_callee (f := 63) rfl ?_); refine goesL_ (some 17) rfl rfl Try.func63 (by kernel_rfl) rfl #[.agg #[.string a0_0, .int .i64 a0_1, .int .i64 a0_2, .int .i64 a0_3, .int .i64 a0_4, .int .i64 a0_5], .int .i64 a2, .int .i64 a3] rfl gZ ?_; (with_reducible refine (impl_Pipe_loss.calls a0_0 a0_1 a0_2 a0_3 a0_4 a0_5 a2 a3 t321 _ A7.out).mono ?_); rintro e w20 ⟨rfl, hb⟩; refine ⟨_, rfl, ?_⟩; have n0_ := Aside0.mk (blk_below (g := gb320) (o := .cells #[.string a0_0, .int .i64 a0_1, .int .i64 a0_2, .int .i64 a0_3, .int .i64 a0_4, .int .i64 a0_5] 37 (0, 0)) (kZ BK320.out) hb); have n1_ := Aside0.mk (below_step bZ hb); clear BK320; clear HB; have BK320 := n0_; have HB := n1_; clear n0_ n1_; (try clear hb); (try clear hb2); (try clear hk); (try clear hi)) | ((with_reducible refine gate_callee (f := 55) rfl ?_); refine goesL_ (some 20) rfl rfl Try.func55 (by kernel_rfl) rfl #[.int .i64 a1] rfl gZ ?_; (with_reducible refine (impl_abs.calls a1 t322 _ A8.out).mono ?_); rintro e w21 ⟨rfl, hb⟩; refine ⟨_, rfl, ?_⟩; have n0_ := Aside0.mk (blk_below (g := gb320) (o := .cells #[.string a0_0, .int .i64 a0_1, .int .i64 a0_2, .int .i64 a0_3, .int .i64 a0_4, .int .i64 a0_5] 37 (0, 0)) (kZ BK320.out) hb); have n1_ := Aside0.mk (below_step bZ hb); clear BK320; clear HB; have BK320 := n0_; have HB := n1_; clear n0_ n1_; (try clear hb); (try clear hb2); (try clear hk); (try clear hi)) | ((with_reducible refine gate_callee (f := 28) rfl ?_); refine goesL_ (some 22) rfl rfl Try.func28 (by kernel_rfl) rfl #[.int .i64 (wrap64 (100000 * t321)), .int .i64 (wrap64 (4186 * t322))] rfl gZ ?_; (with_reducible refine (impl_divRound.calls (wrap64 (100000 * t321)) (wrap64 (4186 * t322)) t323 _ A9.out).mono ?_); rintro e w22 ⟨rfl, hb⟩; refine ⟨_, rfl, ?_⟩; have n0_ := Aside0.mk (blk_below (g := gb320) (o := .cells #[.string a0_0, .int .i64 a0_1, .int .i64 a0_2, .int .i64 a0_3, .int .i64 a0_4, .int .i64 a0_5] 37 (0, 0)) (kZ BK320.out) hb); have n1_ := Aside0.mk (below_step bZ hb); clear BK320; clear HB; have BK320 := n0_; have HB := n1_; clear n0_ n1_; (try clear hb); (try clear hb2); (try clear hk); (try clear hi)))
   go_ret
   exact ⟨by first | rfl | (simp [errW_none, errW_some] <;> rfl) | (simp only [← hji17]; first | rfl | (simp [errW_none, errW_some] <;> rfl)) | (simp [*, errW_none, errW_some] <;> rfl), bZ⟩
def impl_delayed.l0 : Nat → Int → List (S49) → List (S49) → Int → Int → Option ((List (S49)))
 | 0, _, _, _, _, _ => none
 | k + 1, x1, x7, x16, x17, x18 => if x18 < x17 then (if 0 ≤ x18 then (if x18 < (x16.length : Int) then (if x7.length < 8796093022208 then (impl_delayed.l0 k x1 (x7 ++ [(⟨wrap64 (((rd_T49 x16 x18).f0) + x1), (rd_T49 x16 x18).f1⟩ : S49)]) x16 x17 (wrap64 (x18 + 1))) else (none)) else (none)) else (none)) else (some x7)
def impl_delayed.f (k : Nat) (l0 : List (S49)) (a1 : Int) (a2 : Int) : Option ((List (S49))) := if a1 = 0 then (some l0) else (impl_delayed.l0 k a1 (([(⟨0, a2⟩ : S49)] : List (S49))) l0 (l0.length : Int) 0)
set_option maxHeartbeats 8000000 in
set_option maxRecDepth 100000 in
theorem impl_delayed.calls (k : Nat) (P0_ : Nat → Prop) (u9000_ : Value) (l0 : List (S49)) (a1 : Int) (a2 : Int) (r : List (S49)) (w0 w : World) (hB : Below w0.heap.size w0 w) (ho0 : Kd.R k49 49 w w0.heap.size P0_ u9000_ l0) (h : impl_delayed.f k l0 a1 a2 = some r) :
  Calls Try.prog 42 #[u9000_, .int .i64 a1, .int .i64 a2] w fun e w' => ∃ v0_ : Value, e = .returned (v0_) ∧ Kd.R k49 49 w' w0.heap.size (fun k_ => (P0_ k_ ∨ w.heap.size ≤ k_)) v0_ r ∧ Below w0.heap.size w0 w' ∧ Kept w w' (fun k_ => P0_ k_) := by
 have hu49 := Try.underlying49
 have HO0 := Aside0.mk (show Kd.R k49 49 w w0.heap.size (fun k_ => (P0_ k_ ∨ w.heap.size ≤ k_)) u9000_ l0 from Kd.R_mono ho0 (fun k_ hk => (.inl hk)))
 have HK := Aside0.mk (Kept.refl w (fun k_ => P0_ k_))
 have HW0 := Aside0.mk hB.size
 have HB := Aside0.mk hB
 clear hB
 have H : (if a1 = 0 then (some l0) else (impl_delayed.l0 k a1 (([(⟨0, a2⟩ : S49)] : List (S49))) l0 (l0.length : Int) 0)) = some r := h
 clear h
 by_cases c4 : a1 = 0
 ·rw [if_pos c4] at H
  have c4b0 : (a1 == 0) = true := beq_iff_eq.mpr c4
  have c4b1 : (a1 != 0) = false := bne_eq_false_iff_eq.mpr c4
  clear c4
  obtain rfl := Option.some.inj H
  go_enter Try.func42, Try.ntmps42
  go_wp2
  go_ret
  exact ⟨_, eZ, Kd.rZ HO0.out, bZ, by repeat (first | (with_reducible first | exact HK.out | apply Kept.alloc | apply Kept.drewN | apply Kept.drew) | exact HK.out)⟩
 ·rw [if_neg c4] at H
  have c4b0 : (a1 == 0) = false := beq_eq_false_iff_ne.mpr c4
  have c4b1 : (a1 != 0) = true := bne_iff_ne.mpr c4
  obtain ⟨y324, hy324⟩ : ∃ y_ : List (S49), y_ = (([(⟨0, a2⟩ : S49)] : List (S49))) := ⟨_, rfl⟩
  replace H : (impl_delayed.l0 k a1 y324 l0 (l0.length : Int) 0) = some r := by first | (rw [hy324]; with_reducible exact H) | (have H2_ := (Option.bind_some _ _).symm.trans H; rw [hy324]; with_reducible exact H2_) | (have H2_ := (Option.bind_some _ _).symm.trans H; with_reducible exact H2_) | with_reducible exact H | (rw [hy324]; exact H) | exact H
  have Ny324 := Aside0.mk hy324
  clear hy324
  have H' := Aside0.mk H
  clear H
  go_enter Try.func42, Try.ntmps42
  go_wp2_with (first | ((with_reducible refine gate_dst (N := 15) rfl ?_); refine Kd.R_lit k49 _ 49 ?hg (N := 15) ?hd (xs := ([(⟨0, a2⟩ : S49)] : List (S49))) (inner := [.int .i64 0, .int .i64 a2]) (ok := fun _ => True) (okp := fun _ => True) ?hr ?hp (fun _ hk => hk) trivial (Below.refl _ _) (Nat.le_refl _) (by simp) ?_; (case hd => rfl); (case hg => rfl); (case hr => first | (go_simp; done) | (go_simp; rfl)); (case hp => exact (Reps.c2 (show Kd.M k49 _ _ _ (⟨0, a2⟩ : S49) [.int .i64 0, .int .i64 a2] from (k49_mkM _ _ _ (⟨0, a2⟩ : S49) )) (Reps.none _ _))); intro v325 w5 ho6 hb hg_ hnew_; clear hg_ hnew_; (first | rw [← Ny324.out] at ho6 | (simp only [Int.reduceToNat] at ho6; rw [← Ny324.out] at ho6)); have n0_ := Aside0.mk (Kd.R_elder' (Kd.rZ HO0.out) (Kd.R_base ho6) hb); have n1_ := Aside0.mk (Kd.R_lower (Kd.R_new' (Kd.R_newM (M := fun k_ => (P0_ k_ ∨ w.heap.size ≤ k_)) ho6 (by first | exact HK.out.1 | exact (show Kept w _ (fun k_ => P0_ k_) from by repeat (first | (with_reducible first | exact HK.out | apply Kept.alloc | apply Kept.drewN | apply Kept.drew) | exact HK.out)).1) (fun k_ h_ => .inr h_)) (Kd.R_lt (Kd.rZ HO0.out))) bsZ); have n2_ := Aside0.mk (Kept.below (S := (fun k_ => P0_ k_)) (by repeat (first | (with_reducible first | exact HK.out | apply Kept.alloc | apply Kept.drewN | apply Kept.drew) | exact HK.out)) hb); have n3_ := Aside0.mk (below_step bZ hb); clear HO0; clear HK; clear HB; have HO0 := n0_; have HO326 := n1_; have HK := n2_; have HB := n3_; clear n0_ n1_ n2_ n3_; clear hb ho6; obtain ⟨Ao7, co7, eo7⟩ := Kd.R_slice HO0.out; subst eo7))
  go_loopg [7, 18] k (fun kq v7 v18 w' => ∃ (x7_1 : List (S49)) (x18_1 : Int), v18 = .int .i64 x18_1 ∧ Aside0 (impl_delayed.l0 kq a1 x7_1 l0 (l0.length : Int) x18_1 = some r) ∧ Aside0 (kq ≤ k) ∧ Aside0 (Kd.R k49 49 w' w0.heap.size (fun k_ => (P0_ k_ ∨ w.heap.size ≤ k_) ∧ some k_ ≠ ((.slice Ao7 l0.length co7) : Value).ownBlock) v7 x7_1) ∧ Aside0 (Kd.R k49 49 w' w0.heap.size (fun k_ => (P0_ k_ ∨ w.heap.size ≤ k_) ∧ some k_ ≠ (v7 : Value).ownBlock) (.slice Ao7 l0.length co7) l0) ∧ Aside0 (Kept w w' (fun k_ => P0_ k_)) ∧ Aside0 (Below w0.heap.size w0 w'))
  case atStart => exact ⟨(y324), (0), sZ, H', ⟨Nat.le_refl _⟩, ⟨Kd.rZ (Kd.R_mono HO326.out (fun _ hk => ⟨hk.1.1, hk.2⟩))⟩, ⟨Kd.rZ HO0.out⟩, ⟨by repeat (first | (with_reducible first | exact HK.out | apply Kept.alloc | apply Kept.drewN | apply Kept.drew) | exact HK.out)⟩, ⟨bZ⟩⟩
  case round =>
   clear H'; (try clear c2); (try clear p2); (try clear c4); (try clear c4b0); (try clear c4b1)
   obtain ⟨x7_1, x18_1, rfl, HA, HK1, HO_7, HO_16, HK, HB⟩ := hrel
   cases gk with
   | zero => exact absurd HA.out (by simp [impl_delayed.l0])
   | succ k1 =>
    have H := HA.out
    clear HA
    simp only [impl_delayed.l0] at H
    by_cases c8 : x18_1 < (l0.length : Int)
    ·rw [if_pos c8] at H
     have c8b0 : decide (x18_1 < (l0.length : Int)) = true := decide_eq_true c8
     clear c8
     by_cases c9 : 0 ≤ x18_1
     ·rw [if_pos c9] at H
      have c9b0 : decide (0 ≤ x18_1) = true := decide_eq_true c9
      clear c9
      by_cases c10 : x18_1 < (l0.length : Int)
      ·rw [if_pos c10] at H
       have c10b0 : decide (x18_1 < (l0.length : Int)) = true := decide_eq_true c10
       clear c10
       by_cases c11 : x7_1.length < 8796093022208
       ·rw [if_pos c11] at H
        have LMc11 := Aside0.mk c11
        clear c11
        obtain ⟨y329, hy329⟩ : ∃ y_ : List (S49), y_ = (x7_1 ++ [(⟨wrap64 (((rd_T49 l0 x18_1).f0) + a1), (rd_T49 l0 x18_1).f1⟩ : S49)]) := ⟨_, rfl⟩
        replace H : (impl_delayed.l0 k1 a1 y329 l0 (l0.length : Int) (wrap64 (x18_1 + 1))) = some r := by first | (rw [hy329]; with_reducible exact H) | (have H2_ := (Option.bind_some _ _).symm.trans H; rw [hy329]; with_reducible exact H2_) | (have H2_ := (Option.bind_some _ _).symm.trans H; with_reducible exact H2_) | with_reducible exact H | (rw [hy329]; exact H) | exact H
        have Ny329 := Aside0.mk hy329
        clear hy329
        have H' := Aside0.mk H
        clear H
        have p327 : 0 ≤ (x18_1 : Int) := oZ
        have q327 : x18_1 < (l0.length : Int) := oZ
        obtain ⟨ad327, e327, hx327_0, hx327_1⟩ := at_T49 (Kd.R_reads' HO_16.out).2.2 x18_1 p327 q327
        cases e327
        replace p327 := eq_true p327
        replace q327 := eq_true q327
        go_wp2_with (first | ((with_reducible refine gate_dst (N := 9) rfl ?_); refine boxZ 9 #[.int .i64 0, .int .i64 0] 49 rfl rfl ?_; intro gb328 hg w12 hbox hb; have n0_ := Aside0.mk (Kd.R_below (Kd.R_elderB (Kd.rZ HO_7.out) gb328 (Nat.le_of_eq hg.symm)) hb); have n1_ := Aside0.mk (Kd.R_below (Kd.R_elderB (Kd.rZ HO_16.out) gb328 (Nat.le_of_eq hg.symm)) hb); have n2_ := Aside0.mk (Kept.below (S := (fun k_ => P0_ k_)) (by repeat (first | (with_reducible first | exact HK.out | apply Kept.alloc | apply Kept.drewN | apply Kept.drew) | exact HK.out)) hb); have n3_ := Aside0.mk (below_step bZ hb); have n4_ := Aside0.mk (hbox); have n5_ := Aside0.mk ((by rw [hg]; exact (by first | exact HK.out.1 | exact (show Kept w _ (fun k_ => P0_ k_) from by repeat (first | (with_reducible first | exact HK.out | apply Kept.alloc | apply Kept.drewN | apply Kept.drew) | exact HK.out)).1) : w.heap.size ≤ gb328)); have n6_ := Aside0.mk ((by rw [hg]; exact bsZ : w0.heap.size ≤ gb328)); clear HO_7; clear HO_16; clear HK; clear HB; have HO_7 := n0_; have HO_16 := n1_; have HK := n2_; have HB := n3_; have BK328 := n4_; have GW328 := n5_; have GE328 := n6_; clear n0_ n1_ n2_ n3_ n4_ n5_ n6_; clear hb hbox hg; have hcz13_0 := bc0 BK328.out; have hcz13_1 := bc1 BK328.out; have hfz13_0 := blk_frozen BK328.out 0; have hfz13_1 := blk_frozen BK328.out 1) | ((with_reducible refine gate_builtin (b := .append) (xs := #[.tmp 22, .tmp 30]) rfl ?_); at_builtin; refine Kd.R_append k49 (w0 := w0) w0.heap.size rfl (.tmp 22) (.tmp 30) 24 49 (.agg #[(.int .i64 0), (.int .i64 0)]) 16 rfl Try.underlying24 info49 rfl (by decide) (by omega) u7 x7_1 (⟨wrap64 (((rd_T49 l0 x18_1).f0) + a1), (rd_T49 l0 x18_1).f1⟩ : S49) [.int .i64 (wrap64 (((rd_T49 l0 x18_1).f0) + a1)), .int .i64 ((rd_T49 l0 x18_1).f1)] (fun k_ => (P0_ k_ ∨ w.heap.size ≤ k_) ∧ some k_ ≠ (.slice (some ad327) l0.length co7 : Value).ownBlock ∧ k_ ≠ gb328) (fun _ => False) rfl (by first | (go_simp; done) | (go_simp; rfl)) ?aP (fun _ hk => hk.elim) ?aF ?aO ?aB ?aS ?aL ?_; (case aP => exact k49_mkM _ _ _ (⟨wrap64 (((rd_T49 l0 x18_1).f0) + a1), (rd_T49 l0 x18_1).f1⟩ : S49)); (case aB => exact bZ); (case aF => exact (fun k_ hk => ⟨(.inr (Nat.le_trans (show Kept w _ (fun k_ => P0_ k_) from by repeat (first | (with_reducible first | exact HK.out | apply Kept.alloc | apply Kept.drewN | apply Kept.drew | refine Kept.setCell ?_ (.inr GW328.out) _) | exact HK.out)).1 hk)), Kd.fresh' (Kd.R_lt (Kd.rZ ((Kd.R_mono (Kd.R_far (p := ⟨gb328, 1, none⟩) (Kd.R_far (p := ⟨gb328, 0, none⟩) (Kd.R_mono HO_16.out (fun k_ hk => (⟨hk, hk.2⟩ : _ ∧ k_ ≠ gb328))) (fun _ hk => hk.2) (.int .i64 ((rd_T49 l0 x18_1).f0))) (fun _ hk => hk.2) (.int .i64 ((rd_T49 l0 x18_1).f1))) (fun _ h_ => h_.1))))) k_ hk, Kd.freshB (g := gb328) (o := .cells #[.int .i64 ((rd_T49 l0 x18_1).f0), .int .i64 ((rd_T49 l0 x18_1).f1)] 49 (0, 0)) (by (with_reducible repeat (first | refine blk_drewN ?_ _ | refine blk_drew ?_ | refine blk_alloc ?_ _)); refine blk_put (cs := #[.int .i64 ((rd_T49 l0 x18_1).f0), .int .i64 0]) ?_ 1 _ rfl; (with_reducible repeat (first | refine blk_drewN ?_ _ | refine blk_drew ?_ | refine blk_alloc ?_ _)); refine blk_put (cs := #[.int .i64 0, .int .i64 0]) ?_ 0 _ rfl; (with_reducible repeat (first | refine blk_drewN ?_ _ | refine blk_drew ?_ | refine blk_alloc ?_ _)); exact BK328.out) k_ hk⟩)); (case aO => exact (Kd.rZ (Kd.R_mono (Kd.R_far (p := ⟨gb328, 1, none⟩) (Kd.R_far (p := ⟨gb328, 0, none⟩) (Kd.R_mono HO_7.out (fun k_ hk => (⟨hk, hk.2⟩ : _ ∧ k_ ≠ gb328))) (fun _ hk => hk.2) (.int .i64 ((rd_T49 l0 x18_1).f0))) (fun _ hk => hk.2) (.int .i64 ((rd_T49 l0 x18_1).f1))) (fun _ hk => ⟨hk.1.1.1, ⟨hk.1.1.2, hk.1.2⟩⟩)))); (case aS => exact bsZ); (case aL => have := LMc11.out; omega); intro v330 w14 ho hb hg hat; rw [← Ny329.out] at ho; have n0_ := Aside0.mk (Kd.R_after (ok := (fun k_ => (P0_ k_ ∨ w.heap.size ≤ k_) ∧ k_ ≠ gb328)) (Kd.rZ (Kd.R_mono (Kd.R_far (p := ⟨gb328, 1, none⟩) (Kd.R_far (p := ⟨gb328, 0, none⟩) (Kd.R_mono HO_16.out (fun k_ hk => (⟨hk, hk.2⟩ : _ ∧ k_ ≠ gb328))) (fun _ hk => hk.2) (.int .i64 ((rd_T49 l0 x18_1).f0))) (fun _ hk => hk.2) (.int .i64 ((rd_T49 l0 x18_1).f1))) (fun _ hk => ⟨⟨hk.1.1.1, hk.1.2⟩, hk.1.1.2⟩))) hg hat); have n1_ := Aside0.mk (blk_grown (g := gb328) (o := .cells #[.int .i64 ((rd_T49 l0 x18_1).f0), .int .i64 ((rd_T49 l0 x18_1).f1)] 49 (0, 0)) (by (with_reducible repeat (first | refine blk_drewN ?_ _ | refine blk_drew ?_ | refine blk_alloc ?_ _)); refine blk_put (cs := #[.int .i64 ((rd_T49 l0 x18_1).f0), .int .i64 0]) ?_ 1 _ rfl; (with_reducible repeat (first | refine blk_drewN ?_ _ | refine blk_drew ?_ | refine blk_alloc ?_ _)); refine blk_put (cs := #[.int .i64 0, .int .i64 0]) ?_ 0 _ rfl; (with_reducible repeat (first | refine blk_drewN ?_ _ | refine blk_drew ?_ | refine blk_alloc ?_ _)); exact BK328.out) hg (Kd.R_away HO_7.out (fun _ hk => hk.2))); have n2_ := Aside0.mk (hb); have n3_ := Aside0.mk (Kept.of_grown (S := (fun k_ => P0_ k_)) hg (by repeat (first | (with_reducible first | exact HK.out | apply Kept.alloc | apply Kept.drewN | apply Kept.drew | refine Kept.setCell ?_ (.inr GW328.out) _) | exact HK.out)) (fun k_ e_ => (HO_7.out.1 k_ e_).1.1)); have n4_ := Aside0.mk (ho); clear HO_16; clear BK328; clear HB; clear HK; clear HO_7; have HO_16 := n0_; have BK328 := n1_; have HB := n2_; have HK := n3_; have HO331 := n4_; clear n0_ n1_ n2_ n3_ n4_; clear ho hb hg hat))
        go_roundg k1
        case measure => have := HK1.out; omega
        case rel => exact ⟨(y329), (wrap64 (x18_1 + 1)), sZ, H', ⟨by have := HK1.out; omega⟩, ⟨Kd.rZ (Kd.R_mono HO331.out (fun _ hk => ⟨hk.1, hk.2.1⟩))⟩, ⟨Kd.rZ (Kd.R_mono HO_16.out (fun _ hk => ⟨hk.1.1, hk.2⟩))⟩, ⟨by repeat (first | (with_reducible first | exact HK.out | apply Kept.alloc | apply Kept.drewN | apply Kept.drew | refine Kept.setCell ?_ (.inr GW328.out) _) | exact HK.out)⟩, ⟨bZ⟩⟩
       ·rw [if_neg c11] at H
        exact absurd H (by simp)
      ·rw [if_neg c10] at H
       exact absurd H (by simp)
     ·rw [if_neg c9] at H
      exact absurd H (by simp)
    ·rw [if_neg c8] at H
     have c8b0 : decide (x18_1 < (l0.length : Int)) = false := decide_eq_false c8
     clear c8
     obtain rfl := Option.some.inj H
     go_wp2
     go_ret
     exact ⟨_, eZ, Kd.rZ (Kd.R_mono HO_7.out (fun _ hk => hk.1)), bZ, by repeat (first | (with_reducible first | exact HK.out | apply Kept.alloc | apply Kept.drewN | apply Kept.drew) | exact HK.out)⟩
def impl_divUp.f (a0 : Int) (a1 : Int) : Option (Int) := if a1 = 0 then (none) else (some (wrap64 (Int.tdiv (wrap64 ((wrap64 (a0 + a1)) - 1)) a1)))
set_option maxHeartbeats 8000000 in
set_option maxRecDepth 100000 in
theorem impl_divUp.calls (a0 : Int) (a1 : Int) (r : Int) (w : World) (h : impl_divUp.f a0 a1 = some r) :
  Calls Try.prog 64 #[.int .i64 a0, .int .i64 a1] w fun e w' => e = .returned (.int .i64 r) ∧ Drawn0 w w' := by
 have H : (if a1 = 0 then (none) else (some (wrap64 (Int.tdiv (wrap64 ((wrap64 (a0 + a1)) - 1)) a1)))) = some r := h
 clear h
 by_cases c3 : a1 = 0
 ·rw [if_pos c3] at H
  exact absurd H (by simp)
 ·rw [if_neg c3] at H
  have c3b0 : (a1 == 0) = false := beq_eq_false_iff_ne.mpr c3
  have c3b1 : (a1 != 0) = true := bne_iff_ne.mpr c3
  obtain rfl := Option.some.inj H
  go_enter Try.func64, Try.ntmps64
  go_wp2
  go_ret
  exact ⟨sZ, dZ⟩
def impl_Pipe_water.f (a0_0 : ByteArray) (a0_1 : Int) (a0_2 : Int) (a0_3 : Int) (a0_4 : Int) (a0_5 : Int) : Option (Int) := (impl_divRound.f (wrap64 ((wrap64 ((wrap64 (a0_3 * a0_4)) * a0_4)) * 7854)) 10000).bind fun t333 => (some t333)
set_option maxHeartbeats 8000000 in
set_option maxRecDepth 100000 in
theorem impl_Pipe_water.calls (a0_0 : ByteArray) (a0_1 : Int) (a0_2 : Int) (a0_3 : Int) (a0_4 : Int) (a0_5 : Int) (r : Int) (w : World) (h : impl_Pipe_water.f a0_0 a0_1 a0_2 a0_3 a0_4 a0_5 = some r) :
  Calls Try.prog 65 #[.agg #[.string a0_0, .int .i64 a0_1, .int .i64 a0_2, .int .i64 a0_3, .int .i64 a0_4, .int .i64 a0_5]] w fun e w' => e = .returned (.int .i64 r) ∧ Below w.heap.size w w' := by
 have hu37 := Try.underlying37
 have HB := Aside0.mk (Below.refl w.heap.size w)
 have H : ((impl_divRound.f (wrap64 ((wrap64 ((wrap64 (a0_3 * a0_4)) * a0_4)) * 7854)) 10000).bind fun t333 => (some t333)) = some r := h
 clear h
 replace H := Option.bind_eq_some_iff.mp H
 obtain ⟨t333, A20, H⟩ := H
 replace H : (some t333) = some r := H
 have A2 := Aside0.mk A20
 clear A20
 obtain rfl := Option.some.inj H
 go_enter Try.func65, Try.ntmps65
 go_wp2_with (first | ((with_reducible refine gate_dst (N := 1) rfl ?_); refine boxZ 1 #[.string a0_0, .int .i64 a0_1, .int .i64 a0_2, .int .i64 a0_3, .int .i64 a0_4, .int .i64 a0_5] 37 rfl rfl ?_; intro gb332 hg w3 hbox hb; have n0_ := Aside0.mk (below_step bZ hb); have n1_ := Aside0.mk (hbox); have n2_ := Aside0.mk ((by rw [hg]; exact bsZ : w.heap.size ≤ gb332)); have n3_ := Aside0.mk ((by rw [hg]; exact bsZ : w.heap.size ≤ gb332)); clear HB; have HB := n0_; have BK332 := n1_; have GW332 := n2_; have GE332 := n3_; clear n0_ n1_ n2_ n3_; clear hb hbox hg; have hcz4_0 := bc0 BK332.out; have hcz4_1 := bc1 BK332.out; have hcz4_2 := bc2 BK332.out; have hcz4_3 := bc3 BK332.out; have hcz4_4 := bc4 BK332.out; have hcz4_5 := bc5 BK332.out; have hfz4_0 := blk_frozen BK332.out 0; have hfz4_1 := blk_frozen BK332.out 1; have hfz4_2 := blk_frozen BK332.out 2; have hfz4_3 := blk_frozen BK332.out 3; have hfz4_4 := blk_frozen BK332.out 4; have hfz4_5 := blk_frozen BK332.out 5) | ((with_reducible refine gate_callee (f := 28) rfl ?_); refine goesL_ (some 12) rfl rfl Try.func28 (by kernel_rfl) rfl #[.int .i64 (wrap64 ((wrap64 ((wrap64 (a0_3 * a0_4)) * a0_4)) * 7854)), .int .i64 10000] rfl gZ ?_; (with_reducible refine (impl_divRound.calls (wrap64 ((wrap64 ((wrap64 (a0_3 * a0_4)) * a0_4)) * 7854)) 10000 t333 _ A2.out).mono ?_); rintro e w5 ⟨rfl, hb⟩; refine ⟨_, rfl, ?_⟩; have n0_ := Aside0.mk (blk_below (g := gb332) (o := .cells #[.string a0_0, .int .i64 a0_1, .int .i64 a0_2, .int .i64 a0_3, .int .i64 a0_4, .int .i64 a0_5] 37 (0, 0)) (kZ BK332.out) hb); have n1_ := Aside0.mk (below_step bZ hb); clear BK332; clear HB; have BK332 := n0_; have HB := n1_; clear n0_ n1_; (try clear hb); (try clear hb2); (try clear hk); (try clear hi)))
 go_ret
 exact ⟨eZ, bZ⟩
end Go.Proofs.Ytmmlhbfkchbpaaa.XX
end

section
namespace Go.Proofs.Ytmmlhbfkchbpaaa.XX
open Go.RowKit Go.Proofs.YtmmlhbfkchbpaaaW.PrintWords Go.Proofs.YtmmlhbfkchbpaaaW.PrintLast Go.Proofs.YtmmlhbfkchbpaaaW.PrintMore
attribute [local go_sem] run_eql_slice_nil binOp_string_gtr' binOp_string_leq' binOp_string_geq' max2_int min2_int max_two min_two max_three min_three max_four min_four   -- for this text's walks alone
set_option linter.unusedVariables false
set_option linter.unusedSimpArgs false
def impl_Pipe_delay.f (a0_0 : ByteArray) (a0_1 : Int) (a0_2 : Int) (a0_3 : Int) (a0_4 : Int) (a0_5 : Int) (a1 : Int) : Option (Int) := (impl_Pipe_water.f a0_0 a0_1 a0_2 a0_3 a0_4 a0_5).bind fun t335 => ((impl_abs.f a1).bind fun t336 => ((impl_divUp.f t335 t336).bind fun t337 => (some t337)))
set_option maxHeartbeats 8000000 in
set_option maxRecDepth 100000 in
theorem impl_Pipe_delay.calls (a0_0 : ByteArray) (a0_1 : Int) (a0_2 : Int) (a0_3 : Int) (a0_4 : Int) (a0_5 : Int) (a1 : Int) (r : Int) (w : World) (h : impl_Pipe_delay.f a0_0 a0_1 a0_2 a0_3 a0_4 a0_5 a1 = some r) :
  Calls Try.prog 43 #[.agg #[.string a0_0, .int .i64 a0_1, .int .i64 a0_2, .int .i64 a0_3, .int .i64 a0_4, .int .i64 a0_5], .int .i64 a1] w fun e w' => e = .returned (.int .i64 r) ∧ Below w.heap.size w w' := by
 have hu37 := Try.underlying37
 have HB := Aside0.mk (Below.refl w.heap.size w)
 have H : ((impl_Pipe_water.f a0_0 a0_1 a0_2 a0_3 a0_4 a0_5).bind fun t335 => ((impl_abs.f a1).bind fun t336 => ((impl_divUp.f t335 t336).bind fun t337 => (some t337)))) = some r := h
 clear h
 replace H := Option.bind_eq_some_iff.mp H
 obtain ⟨t335, A30, H⟩ := H
 replace H : ((impl_abs.f a1).bind fun t336 => ((impl_divUp.f t335 t336).bind fun t337 => (some t337))) = some r := H
 have A3 := Aside0.mk A30
 clear A30
 replace H := Option.bind_eq_some_iff.mp H
 obtain ⟨t336, A40, H⟩ := H
 replace H : ((impl_divUp.f t335 t336).bind fun t337 => (some t337)) = some r := H
 have A4 := Aside0.mk A40
 clear A40
 replace H := Option.bind_eq_some_iff.mp H
 obtain ⟨t337, A50, H⟩ := H
 replace H : (some t337) = some r := H
 have A5 := Aside0.mk A50
 clear A50
 obtain rfl := Option.some.inj H
 go_enter Try.func43, Try.ntmps43
 go_wp2_with (first | ((with_reducible refine gate_dst (N := 2) rfl ?_); refine boxZ 2 #[.string a0_0, .int .i64 a0_1, .int .i64 a0_2, .int .i64 a0_3, .int .i64 a0_4, .int .i64 a0_5] 37 rfl rfl ?_; intro gb334 hg w6 hbox hb; have n0_ := Aside0.mk (below_step bZ hb); have n1_ := Aside0.mk (hbox); have n2_ := Aside0.mk ((by rw [hg]; exact bsZ : w.heap.size ≤ gb334)); have n3_ := Aside0.mk ((by rw [hg]; exact bsZ : w.heap.size ≤ gb334)); clear HB; have HB := n0_; have BK334 := n1_; have GW334 := n2_; have GE334 := n3_; clear n0_ n1_ n2_ n3_; clear hb hbox hg; have hcz7_0 := bc0 BK334.out; have hcz7_1 := bc1 BK334.out; have hcz7_2 := bc2 BK334.out; have hcz7_3 := bc3 BK334.out; have hcz7_4 := bc4 BK334.out; have hcz7_5 := bc5 BK334.out; have hfz7_0 := blk_frozen BK334.out 0; have hfz7_1 := blk_frozen BK334.out 1; have hfz7_2 := blk_frozen BK334.out 2; have hfz7_3 := blk_frozen BK334.out 3; have hfz7_4 := blk_frozen BK334.out 4; have hfz7_5 := blk_frozen BK334.out 5) | ((with_reducible refine gate_callee (f := 65) rfl ?_); refine goesL_ (some 6) rfl rfl Try.func65 (by kernel_rfl) rfl #[.agg #[.string a0_0, .int .i64 a0_1, .int .i64 a0_2, .int .i64 a0_3, .int .i64 a0_4, .int .i64 a0_5]] rfl gZ ?_; (with_reducible refine (impl_Pipe_water.calls a0_0 a0_1 a0_2 a0_3 a0_4 a0_5 t335 _ A3.out).mono ?_); rintro e w8 ⟨rfl, hb⟩; refine ⟨_, rfl, ?_⟩; have n0_ := Aside0.mk (blk_below (g := gb334) (o := .cells #[.string a0_0, .int .i64 a0_1, .int .i64 a0_2, .int .i64 a0_3, .int .i64 a0_4, .int .i64 a0_5] 37 (0, 0)) (kZ BK334.out) hb); have n1_ := Aside0.mk (below_step bZ hb); clear BK334; clear HB; have BK334 := n0_; have HB := n1_; clear n0_ n1_; (try clear hb); (try clear hb2); (try clear hk); (try clear hi)) | ((with_reducible refine gate_callee (f := 55) rfl ?_); refine goesL_ (some 8) rfl rfl Try.func55 (by kernel_rfl) rfl #[.int .i64 a1] rfl gZ ?_; (with_reducible refine (impl_abs.calls a1 t336 _ A4.out).mono ?_); rintro e w9 ⟨rfl, hb⟩; refine ⟨_, rfl, ?_⟩; have n0_ := Aside0.mk (blk_below (g := gb334) (o := .cells #[.string a0_0, .int .i64 a0_1, .int .i64 a0_2, .int .i64 a0_3, .int .i64 a0_4, .int .i64 a0_5] 37 (0, 0)) (kZ BK334.out) hb); have n1_ := Aside0.mk (below_step bZ hb); clear BK334; clear HB; have BK334 := n0_; have HB := n1_; clear n0_ n1_; (try clear hb); (try clear hb2); (try clear hk); (try clear hi)) | ((with_reducible refine gate_callee (f := 64) rfl ?_); refine goesL_ (some 9) rfl rfl Try.func64 (by kernel_rfl) rfl #[.int .i64 t335, .int .i64 t336] rfl gZ ?_; (with_reducible refine (impl_divUp.calls t335 t336 t337 _ A5.out).mono ?_); rintro e w' ⟨rfl, ⟨nd, rfl⟩⟩; refine ⟨_, rfl, ?_⟩))
 go_ret
 exact ⟨eZ, bZ⟩
end Go.Proofs.Ytmmlhbfkchbpaaa.XX
end

section
namespace Go.Proofs.Ytmmlhbfkchbpaaa.XX
open Go.RowKit Go.Proofs.YtmmlhbfkchbpaaaW.PrintWords Go.Proofs.YtmmlhbfkchbpaaaW.PrintLast Go.Proofs.YtmmlhbfkchbpaaaW.PrintMore
attribute [local go_sem] run_eql_slice_nil binOp_string_gtr' binOp_string_leq' binOp_string_geq' max2_int min2_int max_two min_two max_three min_three max_four min_four   -- for this text's walks alone
set_option linter.unusedVariables false
set_option linter.unusedSimpArgs false
def impl_ThroughPipe.l0 (a0_0 : ByteArray) (a0_1 a0_2 a0_3 a0_4 a0_5 a1 a3 : Int) : Nat → List (S49) → Int → Option (List (S49))
 | 0, _, _ => none
 | k + 1, x, i => if i < (x.length : Int) then (if 0 ≤ i then ((impl_Pipe_endTemperature.f a0_0 a0_1 a0_2 a0_3 a0_4 a0_5 a1 (rd_T49 x i).f1 a3).bind fun t => impl_ThroughPipe.l0 a0_0 a0_1 a0_2 a0_3 a0_4 a0_5 a1 a3 k (x.set i.toNat ⟨(rd_T49 x i).f0, t⟩) (wrap64 (i + 1))) else none) else some x
def impl_ThroughPipe.f (k : Nat) (a0_0 : ByteArray) (a0_1 : Int) (a0_2 : Int) (a0_3 : Int) (a0_4 : Int) (a0_5 : Int) (a1 : Int) (l2 : List (S49)) (a3 : Int) (a4 : Int) : Option (List (S49) × Int) :=
 (impl_ValidPipe.f k a0_0 a0_1 a0_2 a0_3 a0_4 a0_5).bind fun b1 => if b1 = true then ((impl_ValidWave.f k l2).bind fun b2 => if b2 = true then ((impl_flowOk.f a1).bind fun b3 => if b3 = true then ((impl_degreesOk.f a3).bind fun b4 => if b4 = true then ((impl_degreesOk.f a4).bind fun b5 => if b5 = true then (if a1 = 0 then some ([], 6) else
  ((slices_Clone_StepS.f l2).bind fun c => (impl_ThroughPipe.l0 a0_0 a0_1 a0_2 a0_3 a0_4 a0_5 a1 a3 k c 0).bind fun x => (impl_Pipe_delay.f a0_0 a0_1 a0_2 a0_3 a0_4 a0_5 a1).bind fun d => (impl_delayed.f k x d a4).bind fun y => impl_trimmedWave.f k y)) else some ([], 2)) else some ([], 2)) else some ([], 2)) else some ([], 1)) else some ([], 1)
set_option maxHeartbeats 8000000 in
set_option maxRecDepth 100000 in
theorem impl_ThroughPipe.calls (k : Nat) (a0_0 : ByteArray) (a0_1 : Int) (a0_2 : Int) (a0_3 : Int) (a0_4 : Int) (a0_5 : Int) (a1 : Int) (A2 : Option Addr) (c2 : Nat) (l2 : List (S49)) (a3 : Int) (a4 : Int) (r1 : List (S49)) (r2 : Int) (w : World) (hr2 : Kd.C k49 w A2 l2.length l2) (hc2 : l2.length ≤ c2) (h : impl_ThroughPipe.f k a0_0 a0_1 a0_2 a0_3 a0_4 a0_5 a1 l2 a3 a4 = some (r1, r2)) :
  Calls Try.prog 14 #[.agg #[.string a0_0, .int .i64 a0_1, .int .i64 a0_2, .int .i64 a0_3, .int .i64 a0_4, .int .i64 a0_5], .int .i64 a1, .slice A2 l2.length c2, .int .i64 a3, .int .i64 a4] w fun e w' => ∃ v0_ : Value, e = .returned (.tuple #[v0_, .int .i64 r2]) ∧ Kd.R k49 49 w' w.heap.size (fun _ => True) v0_ r1 ∧ Below w.heap.size w w' := by
 unfold impl_ThroughPipe.f at h
 have HR := Aside0.mk hr2
 clear hr2
 obtain ⟨b0, hb0, h⟩ := Option.bind_eq_some_iff.mp h
 have HV1 := Aside0.mk hb0
 clear hb0
 cases b0 with
 | false =>
  simp only [Bool.false_eq_true, if_false, Option.some.injEq, Prod.mk.injEq] at h
  obtain ⟨rfl, rfl⟩ := h
  go_enter Try.func14, Try.ntmps14
  go_wp2_with (first
   | ((with_reducible refine gate_dst (N := 5) rfl ?_); refine box_event ?hg (N := 5) ?hd (cs := #[.string a0_0, .int .i64 a0_1, .int .i64 a0_2, .int .i64 a0_3, .int .i64 a0_4, .int .i64 a0_5]) (t := 37) ?hr ?_; (case hd => rfl); (case hg => rfl); (case hr => first | (go_simp; done) | (go_simp; rfl)); intro gp hgp w12 hbox hb; have HP5 := Aside0.mk hbox; have HB := Aside0.mk (below_step (Below.refl _ _) hb); have hcz5_0 : World.cell? _ ⟨gp, 0, none⟩ = some (.string a0_0) := (blk_cell HP5.out 0).trans rfl; have hcz5_1 : World.cell? _ ⟨gp, 1, none⟩ = some (.int .i64 a0_1) := (blk_cell HP5.out 1).trans rfl; have hcz5_2 : World.cell? _ ⟨gp, 2, none⟩ = some (.int .i64 a0_2) := (blk_cell HP5.out 2).trans rfl; have hcz5_3 : World.cell? _ ⟨gp, 3, none⟩ = some (.int .i64 a0_3) := (blk_cell HP5.out 3).trans rfl; have hcz5_4 : World.cell? _ ⟨gp, 4, none⟩ = some (.int .i64 a0_4) := (blk_cell HP5.out 4).trans rfl; have hcz5_5 : World.cell? _ ⟨gp, 5, none⟩ = some (.int .i64 a0_5) := (blk_cell HP5.out 5).trans rfl; clear hb hbox hgp)
   | (go_at_call 37; go_loud ((with_reducible refine (impl_ValidPipe.calls k a0_0 a0_1 a0_2 a0_3 a0_4 a0_5 false _ HV1.out).mono ?_); rintro e w2 ⟨rfl, hb⟩; have hb_ := hb; clear hcz5_0 hcz5_1 hcz5_2 hcz5_3 hcz5_4 hcz5_5; replace HP5 := Aside0.mk (blk_below HP5.out hb_); replace HB := Aside0.mk (below_step HB.out hb_); have hcz5_0 : World.cell? _ ⟨gp, 0, none⟩ = some (.string a0_0) := (blk_cell HP5.out 0).trans rfl; have hcz5_1 : World.cell? _ ⟨gp, 1, none⟩ = some (.int .i64 a0_1) := (blk_cell HP5.out 1).trans rfl; have hcz5_2 : World.cell? _ ⟨gp, 2, none⟩ = some (.int .i64 a0_2) := (blk_cell HP5.out 2).trans rfl; have hcz5_3 : World.cell? _ ⟨gp, 3, none⟩ = some (.int .i64 a0_3) := (blk_cell HP5.out 3).trans rfl; have hcz5_4 : World.cell? _ ⟨gp, 4, none⟩ = some (.int .i64 a0_4) := (blk_cell HP5.out 4).trans rfl; have hcz5_5 : World.cell? _ ⟨gp, 5, none⟩ = some (.int .i64 a0_5) := (blk_cell HP5.out 5).trans rfl; clear hb hb_)))
  go_ret2
  exact ⟨_, rfl, Kd.R_nil _ _ _ _ _, HB.out⟩
 | true =>
  simp only [if_true] at h
  obtain ⟨b1, hb1, h⟩ := Option.bind_eq_some_iff.mp h
  have HV2 := Aside0.mk hb1
  clear hb1
  cases b1 with
  | false =>
   simp only [Bool.false_eq_true, if_false, Option.some.injEq, Prod.mk.injEq] at h
   obtain ⟨rfl, rfl⟩ := h
   go_enter Try.func14, Try.ntmps14
   go_wp2_with (first
    | ((with_reducible refine gate_dst (N := 5) rfl ?_); refine box_event ?hg (N := 5) ?hd (cs := #[.string a0_0, .int .i64 a0_1, .int .i64 a0_2, .int .i64 a0_3, .int .i64 a0_4, .int .i64 a0_5]) (t := 37) ?hr ?_; (case hd => rfl); (case hg => rfl); (case hr => first | (go_simp; done) | (go_simp; rfl)); intro gp hgp w12 hbox hb; have HP5 := Aside0.mk hbox; have HB := Aside0.mk (below_step (Below.refl _ _) hb); have hcz5_0 : World.cell? _ ⟨gp, 0, none⟩ = some (.string a0_0) := (blk_cell HP5.out 0).trans rfl; have hcz5_1 : World.cell? _ ⟨gp, 1, none⟩ = some (.int .i64 a0_1) := (blk_cell HP5.out 1).trans rfl; have hcz5_2 : World.cell? _ ⟨gp, 2, none⟩ = some (.int .i64 a0_2) := (blk_cell HP5.out 2).trans rfl; have hcz5_3 : World.cell? _ ⟨gp, 3, none⟩ = some (.int .i64 a0_3) := (blk_cell HP5.out 3).trans rfl; have hcz5_4 : World.cell? _ ⟨gp, 4, none⟩ = some (.int .i64 a0_4) := (blk_cell HP5.out 4).trans rfl; have hcz5_5 : World.cell? _ ⟨gp, 5, none⟩ = some (.int .i64 a0_5) := (blk_cell HP5.out 5).trans rfl; clear hb hbox hgp)
    | (go_at_call 37; go_loud ((with_reducible refine (impl_ValidPipe.calls k a0_0 a0_1 a0_2 a0_3 a0_4 a0_5 true _ HV1.out).mono ?_); rintro e w2 ⟨rfl, hb⟩; have hb_ := hb; clear hcz5_0 hcz5_1 hcz5_2 hcz5_3 hcz5_4 hcz5_5; replace HP5 := Aside0.mk (blk_below HP5.out hb_); replace HB := Aside0.mk (below_step HB.out hb_); have hcz5_0 : World.cell? _ ⟨gp, 0, none⟩ = some (.string a0_0) := (blk_cell HP5.out 0).trans rfl; have hcz5_1 : World.cell? _ ⟨gp, 1, none⟩ = some (.int .i64 a0_1) := (blk_cell HP5.out 1).trans rfl; have hcz5_2 : World.cell? _ ⟨gp, 2, none⟩ = some (.int .i64 a0_2) := (blk_cell HP5.out 2).trans rfl; have hcz5_3 : World.cell? _ ⟨gp, 3, none⟩ = some (.int .i64 a0_3) := (blk_cell HP5.out 3).trans rfl; have hcz5_4 : World.cell? _ ⟨gp, 4, none⟩ = some (.int .i64 a0_4) := (blk_cell HP5.out 4).trans rfl; have hcz5_5 : World.cell? _ ⟨gp, 5, none⟩ = some (.int .i64 a0_5) := (blk_cell HP5.out 5).trans rfl; clear hb hb_))
    | (go_at_call 22; go_loud ((with_reducible refine (impl_ValidWave.calls k A2 c2 l2 false _ (Kd.C_below HR.out HB.out) hc2 HV2.out).mono ?_); rintro e w2 ⟨rfl, hb⟩; have hb_ := hb; clear hcz5_0 hcz5_1 hcz5_2 hcz5_3 hcz5_4 hcz5_5; replace HP5 := Aside0.mk (blk_below HP5.out hb_); replace HB := Aside0.mk (below_step HB.out hb_); have hcz5_0 : World.cell? _ ⟨gp, 0, none⟩ = some (.string a0_0) := (blk_cell HP5.out 0).trans rfl; have hcz5_1 : World.cell? _ ⟨gp, 1, none⟩ = some (.int .i64 a0_1) := (blk_cell HP5.out 1).trans rfl; have hcz5_2 : World.cell? _ ⟨gp, 2, none⟩ = some (.int .i64 a0_2) := (blk_cell HP5.out 2).trans rfl; have hcz5_3 : World.cell? _ ⟨gp, 3, none⟩ = some (.int .i64 a0_3) := (blk_cell HP5.out 3).trans rfl; have hcz5_4 : World.cell? _ ⟨gp, 4, none⟩ = some (.int .i64 a0_4) := (blk_cell HP5.out 4).trans rfl; have hcz5_5 : World.cell? _ ⟨gp, 5, none⟩ = some (.int .i64 a0_5) := (blk_cell HP5.out 5).trans rfl; clear hb hb_)))
   go_ret2
   exact ⟨_, rfl, Kd.R_nil _ _ _ _ _, HB.out⟩
  | true =>
   simp only [if_true] at h
   obtain ⟨b2, hb2, h⟩ := Option.bind_eq_some_iff.mp h
   have HV3 := Aside0.mk hb2
   clear hb2
   cases b2 with
   | false =>
    simp only [Bool.false_eq_true, if_false, Option.some.injEq, Prod.mk.injEq] at h
    obtain ⟨rfl, rfl⟩ := h
    go_enter Try.func14, Try.ntmps14
    go_wp2_with (first
     | ((with_reducible refine gate_dst (N := 5) rfl ?_); refine box_event ?hg (N := 5) ?hd (cs := #[.string a0_0, .int .i64 a0_1, .int .i64 a0_2, .int .i64 a0_3, .int .i64 a0_4, .int .i64 a0_5]) (t := 37) ?hr ?_; (case hd => rfl); (case hg => rfl); (case hr => first | (go_simp; done) | (go_simp; rfl)); intro gp hgp w12 hbox hb; have HP5 := Aside0.mk hbox; have HB := Aside0.mk (below_step (Below.refl _ _) hb); have hcz5_0 : World.cell? _ ⟨gp, 0, none⟩ = some (.string a0_0) := (blk_cell HP5.out 0).trans rfl; have hcz5_1 : World.cell? _ ⟨gp, 1, none⟩ = some (.int .i64 a0_1) := (blk_cell HP5.out 1).trans rfl; have hcz5_2 : World.cell? _ ⟨gp, 2, none⟩ = some (.int .i64 a0_2) := (blk_cell HP5.out 2).trans rfl; have hcz5_3 : World.cell? _ ⟨gp, 3, none⟩ = some (.int .i64 a0_3) := (blk_cell HP5.out 3).trans rfl; have hcz5_4 : World.cell? _ ⟨gp, 4, none⟩ = some (.int .i64 a0_4) := (blk_cell HP5.out 4).trans rfl; have hcz5_5 : World.cell? _ ⟨gp, 5, none⟩ = some (.int .i64 a0_5) := (blk_cell HP5.out 5).trans rfl; clear hb hbox hgp)
     | (go_at_call 37; go_loud ((with_reducible refine (impl_ValidPipe.calls k a0_0 a0_1 a0_2 a0_3 a0_4 a0_5 true _ HV1.out).mono ?_); rintro e w2 ⟨rfl, hb⟩; have hb_ := hb; clear hcz5_0 hcz5_1 hcz5_2 hcz5_3 hcz5_4 hcz5_5; replace HP5 := Aside0.mk (blk_below HP5.out hb_); replace HB := Aside0.mk (below_step HB.out hb_); have hcz5_0 : World.cell? _ ⟨gp, 0, none⟩ = some (.string a0_0) := (blk_cell HP5.out 0).trans rfl; have hcz5_1 : World.cell? _ ⟨gp, 1, none⟩ = some (.int .i64 a0_1) := (blk_cell HP5.out 1).trans rfl; have hcz5_2 : World.cell? _ ⟨gp, 2, none⟩ = some (.int .i64 a0_2) := (blk_cell HP5.out 2).trans rfl; have hcz5_3 : World.cell? _ ⟨gp, 3, none⟩ = some (.int .i64 a0_3) := (blk_cell HP5.out 3).trans rfl; have hcz5_4 : World.cell? _ ⟨gp, 4, none⟩ = some (.int .i64 a0_4) := (blk_cell HP5.out 4).trans rfl; have hcz5_5 : World.cell? _ ⟨gp, 5, none⟩ = some (.int .i64 a0_5) := (blk_cell HP5.out 5).trans rfl; clear hb hb_))
     | (go_at_call 22; go_loud ((with_reducible refine (impl_ValidWave.calls k A2 c2 l2 true _ (Kd.C_below HR.out HB.out) hc2 HV2.out).mono ?_); rintro e w2 ⟨rfl, hb⟩; have hb_ := hb; clear hcz5_0 hcz5_1 hcz5_2 hcz5_3 hcz5_4 hcz5_5; replace HP5 := Aside0.mk (blk_below HP5.out hb_); replace HB := Aside0.mk (below_step HB.out hb_); have hcz5_0 : World.cell? _ ⟨gp, 0, none⟩ = some (.string a0_0) := (blk_cell HP5.out 0).trans rfl; have hcz5_1 : World.cell? _ ⟨gp, 1, none⟩ = some (.int .i64 a0_1) := (blk_cell HP5.out 1).trans rfl; have hcz5_2 : World.cell? _ ⟨gp, 2, none⟩ = some (.int .i64 a0_2) := (blk_cell HP5.out 2).trans rfl; have hcz5_3 : World.cell? _ ⟨gp, 3, none⟩ = some (.int .i64 a0_3) := (blk_cell HP5.out 3).trans rfl; have hcz5_4 : World.cell? _ ⟨gp, 4, none⟩ = some (.int .i64 a0_4) := (blk_cell HP5.out 4).trans rfl; have hcz5_5 : World.cell? _ ⟨gp, 5, none⟩ = some (.int .i64 a0_5) := (blk_cell HP5.out 5).trans rfl; clear hb hb_))
     | (go_at_call 38; go_loud ((with_reducible refine (impl_flowOk.calls a1 false _ HV3.out).mono ?_); rintro e w2 ⟨rfl, hd⟩; have hb := hd.below; clear hd; have hb_ := hb; clear hcz5_0 hcz5_1 hcz5_2 hcz5_3 hcz5_4 hcz5_5; replace HP5 := Aside0.mk (blk_below HP5.out hb_); replace HB := Aside0.mk (below_step HB.out hb_); have hcz5_0 : World.cell? _ ⟨gp, 0, none⟩ = some (.string a0_0) := (blk_cell HP5.out 0).trans rfl; have hcz5_1 : World.cell? _ ⟨gp, 1, none⟩ = some (.int .i64 a0_1) := (blk_cell HP5.out 1).trans rfl; have hcz5_2 : World.cell? _ ⟨gp, 2, none⟩ = some (.int .i64 a0_2) := (blk_cell HP5.out 2).trans rfl; have hcz5_3 : World.cell? _ ⟨gp, 3, none⟩ = some (.int .i64 a0_3) := (blk_cell HP5.out 3).trans rfl; have hcz5_4 : World.cell? _ ⟨gp, 4, none⟩ = some (.int .i64 a0_4) := (blk_cell HP5.out 4).trans rfl; have hcz5_5 : World.cell? _ ⟨gp, 5, none⟩ = some (.int .i64 a0_5) := (blk_cell HP5.out 5).trans rfl; clear hb hb_)))
    go_ret2
    exact ⟨_, rfl, Kd.R_nil _ _ _ _ _, HB.out⟩
   | true =>
    simp only [if_true] at h
    obtain ⟨b3, hb3, h⟩ := Option.bind_eq_some_iff.mp h
    have HV4 := Aside0.mk hb3
    clear hb3
    cases b3 with
    | false =>
     simp only [Bool.false_eq_true, if_false, Option.some.injEq, Prod.mk.injEq] at h
     obtain ⟨rfl, rfl⟩ := h
     go_enter Try.func14, Try.ntmps14
     go_wp2_with (first
      | ((with_reducible refine gate_dst (N := 5) rfl ?_); refine box_event ?hg (N := 5) ?hd (cs := #[.string a0_0, .int .i64 a0_1, .int .i64 a0_2, .int .i64 a0_3, .int .i64 a0_4, .int .i64 a0_5]) (t := 37) ?hr ?_; (case hd => rfl); (case hg => rfl); (case hr => first | (go_simp; done) | (go_simp; rfl)); intro gp hgp w12 hbox hb; have HP5 := Aside0.mk hbox; have HB := Aside0.mk (below_step (Below.refl _ _) hb); have hcz5_0 : World.cell? _ ⟨gp, 0, none⟩ = some (.string a0_0) := (blk_cell HP5.out 0).trans rfl; have hcz5_1 : World.cell? _ ⟨gp, 1, none⟩ = some (.int .i64 a0_1) := (blk_cell HP5.out 1).trans rfl; have hcz5_2 : World.cell? _ ⟨gp, 2, none⟩ = some (.int .i64 a0_2) := (blk_cell HP5.out 2).trans rfl; have hcz5_3 : World.cell? _ ⟨gp, 3, none⟩ = some (.int .i64 a0_3) := (blk_cell HP5.out 3).trans rfl; have hcz5_4 : World.cell? _ ⟨gp, 4, none⟩ = some (.int .i64 a0_4) := (blk_cell HP5.out 4).trans rfl; have hcz5_5 : World.cell? _ ⟨gp, 5, none⟩ = some (.int .i64 a0_5) := (blk_cell HP5.out 5).trans rfl; clear hb hbox hgp)
      | (go_at_call 37; go_loud ((with_reducible refine (impl_ValidPipe.calls k a0_0 a0_1 a0_2 a0_3 a0_4 a0_5 true _ HV1.out).mono ?_); rintro e w2 ⟨rfl, hb⟩; have hb_ := hb; clear hcz5_0 hcz5_1 hcz5_2 hcz5_3 hcz5_4 hcz5_5; replace HP5 := Aside0.mk (blk_below HP5.out hb_); replace HB := Aside0.mk (below_step HB.out hb_); have hcz5_0 : World.cell? _ ⟨gp, 0, none⟩ = some (.string a0_0) := (blk_cell HP5.out 0).trans rfl; have hcz5_1 : World.cell? _ ⟨gp, 1, none⟩ = some (.int .i64 a0_1) := (blk_cell HP5.out 1).trans rfl; have hcz5_2 : World.cell? _ ⟨gp, 2, none⟩ = some (.int .i64 a0_2) := (blk_cell HP5.out 2).trans rfl; have hcz5_3 : World.cell? _ ⟨gp, 3, none⟩ = some (.int .i64 a0_3) := (blk_cell HP5.out 3).trans rfl; have hcz5_4 : World.cell? _ ⟨gp, 4, none⟩ = some (.int .i64 a0_4) := (blk_cell HP5.out 4).trans rfl; have hcz5_5 : World.cell? _ ⟨gp, 5, none⟩ = some (.int .i64 a0_5) := (blk_cell HP5.out 5).trans rfl; clear hb hb_))
      | (go_at_call 22; go_loud ((with_reducible refine (impl_ValidWave.calls k A2 c2 l2 true _ (Kd.C_below HR.out HB.out) hc2 HV2.out).mono ?_); rintro e w2 ⟨rfl, hb⟩; have hb_ := hb; clear hcz5_0 hcz5_1 hcz5_2 hcz5_3 hcz5_4 hcz5_5; replace HP5 := Aside0.mk (blk_below HP5.out hb_); replace HB := Aside0.mk (below_step HB.out hb_); have hcz5_0 : World.cell? _ ⟨gp, 0, none⟩ = some (.string a0_0) := (blk_cell HP5.out 0).trans rfl; have hcz5_1 : World.cell? _ ⟨gp, 1, none⟩ = some (.int .i64 a0_1) := (blk_cell HP5.out 1).trans rfl; have hcz5_2 : World.cell? _ ⟨gp, 2, none⟩ = some (.int .i64 a0_2) := (blk_cell HP5.out 2).trans rfl; have hcz5_3 : World.cell? _ ⟨gp, 3, none⟩ = some (.int .i64 a0_3) := (blk_cell HP5.out 3).trans rfl; have hcz5_4 : World.cell? _ ⟨gp, 4, none⟩ = some (.int .i64 a0_4) := (blk_cell HP5.out 4).trans rfl; have hcz5_5 : World.cell? _ ⟨gp, 5, none⟩ = some (.int .i64 a0_5) := (blk_cell HP5.out 5).trans rfl; clear hb hb_))
      | (go_at_call 38; go_loud ((with_reducible refine (impl_flowOk.calls a1 true _ HV3.out).mono ?_); rintro e w2 ⟨rfl, hd⟩; have hb := hd.below; clear hd; have hb_ := hb; clear hcz5_0 hcz5_1 hcz5_2 hcz5_3 hcz5_4 hcz5_5; replace HP5 := Aside0.mk (blk_below HP5.out hb_); replace HB := Aside0.mk (below_step HB.out hb_); have hcz5_0 : World.cell? _ ⟨gp, 0, none⟩ = some (.string a0_0) := (blk_cell HP5.out 0).trans rfl; have hcz5_1 : World.cell? _ ⟨gp, 1, none⟩ = some (.int .i64 a0_1) := (blk_cell HP5.out 1).trans rfl; have hcz5_2 : World.cell? _ ⟨gp, 2, none⟩ = some (.int .i64 a0_2) := (blk_cell HP5.out 2).trans rfl; have hcz5_3 : World.cell? _ ⟨gp, 3, none⟩ = some (.int .i64 a0_3) := (blk_cell HP5.out 3).trans rfl; have hcz5_4 : World.cell? _ ⟨gp, 4, none⟩ = some (.int .i64 a0_4) := (blk_cell HP5.out 4).trans rfl; have hcz5_5 : World.cell? _ ⟨gp, 5, none⟩ = some (.int .i64 a0_5) := (blk_cell HP5.out 5).trans rfl; clear hb hb_))
      | (go_at_call 39; go_loud ((first | (with_reducible refine (impl_degreesOk.calls a3 false _ HV4.out).mono ?_)); (rintro e w2 ⟨rfl, hd⟩); have hb := hd.below; clear hd; have hb_ := hb; clear hcz5_0 hcz5_1 hcz5_2 hcz5_3 hcz5_4 hcz5_5; replace HP5 := Aside0.mk (blk_below HP5.out hb_); replace HB := Aside0.mk (below_step HB.out hb_); have hcz5_0 : World.cell? _ ⟨gp, 0, none⟩ = some (.string a0_0) := (blk_cell HP5.out 0).trans rfl; have hcz5_1 : World.cell? _ ⟨gp, 1, none⟩ = some (.int .i64 a0_1) := (blk_cell HP5.out 1).trans rfl; have hcz5_2 : World.cell? _ ⟨gp, 2, none⟩ = some (.int .i64 a0_2) := (blk_cell HP5.out 2).trans rfl; have hcz5_3 : World.cell? _ ⟨gp, 3, none⟩ = some (.int .i64 a0_3) := (blk_cell HP5.out 3).trans rfl; have hcz5_4 : World.cell? _ ⟨gp, 4, none⟩ = some (.int .i64 a0_4) := (blk_cell HP5.out 4).trans rfl; have hcz5_5 : World.cell? _ ⟨gp, 5, none⟩ = some (.int .i64 a0_5) := (blk_cell HP5.out 5).trans rfl; clear hb hb_)))
     go_ret2
     exact ⟨_, rfl, Kd.R_nil _ _ _ _ _, HB.out⟩
    | true =>
     simp only [if_true] at h
     obtain ⟨b4, hb4, h⟩ := Option.bind_eq_some_iff.mp h
     have HV5 := Aside0.mk hb4
     clear hb4
     cases b4 with
     | false =>
      simp only [Bool.false_eq_true, if_false, Option.some.injEq, Prod.mk.injEq] at h
      obtain ⟨rfl, rfl⟩ := h
      go_enter Try.func14, Try.ntmps14
      go_wp2_with (first
       | ((with_reducible refine gate_dst (N := 5) rfl ?_); refine box_event ?hg (N := 5) ?hd (cs := #[.string a0_0, .int .i64 a0_1, .int .i64 a0_2, .int .i64 a0_3, .int .i64 a0_4, .int .i64 a0_5]) (t := 37) ?hr ?_; (case hd => rfl); (case hg => rfl); (case hr => first | (go_simp; done) | (go_simp; rfl)); intro gp hgp w12 hbox hb; have HP5 := Aside0.mk hbox; have HB := Aside0.mk (below_step (Below.refl _ _) hb); have hcz5_0 : World.cell? _ ⟨gp, 0, none⟩ = some (.string a0_0) := (blk_cell HP5.out 0).trans rfl; have hcz5_1 : World.cell? _ ⟨gp, 1, none⟩ = some (.int .i64 a0_1) := (blk_cell HP5.out 1).trans rfl; have hcz5_2 : World.cell? _ ⟨gp, 2, none⟩ = some (.int .i64 a0_2) := (blk_cell HP5.out 2).trans rfl; have hcz5_3 : World.cell? _ ⟨gp, 3, none⟩ = some (.int .i64 a0_3) := (blk_cell HP5.out 3).trans rfl; have hcz5_4 : World.cell? _ ⟨gp, 4, none⟩ = some (.int .i64 a0_4) := (blk_cell HP5.out 4).trans rfl; have hcz5_5 : World.cell? _ ⟨gp, 5, none⟩ = some (.int .i64 a0_5) := (blk_cell HP5.out 5).trans rfl; clear hb hbox hgp)
       | (go_at_call 37; go_loud ((with_reducible refine (impl_ValidPipe.calls k a0_0 a0_1 a0_2 a0_3 a0_4 a0_5 true _ HV1.out).mono ?_); rintro e w2 ⟨rfl, hb⟩; have hb_ := hb; clear hcz5_0 hcz5_1 hcz5_2 hcz5_3 hcz5_4 hcz5_5; replace HP5 := Aside0.mk (blk_below HP5.out hb_); replace HB := Aside0.mk (below_step HB.out hb_); have hcz5_0 : World.cell? _ ⟨gp, 0, none⟩ = some (.string a0_0) := (blk_cell HP5.out 0).trans rfl; have hcz5_1 : World.cell? _ ⟨gp, 1, none⟩ = some (.int .i64 a0_1) := (blk_cell HP5.out 1).trans rfl; have hcz5_2 : World.cell? _ ⟨gp, 2, none⟩ = some (.int .i64 a0_2) := (blk_cell HP5.out 2).trans rfl; have hcz5_3 : World.cell? _ ⟨gp, 3, none⟩ = some (.int .i64 a0_3) := (blk_cell HP5.out 3).trans rfl; have hcz5_4 : World.cell? _ ⟨gp, 4, none⟩ = some (.int .i64 a0_4) := (blk_cell HP5.out 4).trans rfl; have hcz5_5 : World.cell? _ ⟨gp, 5, none⟩ = some (.int .i64 a0_5) := (blk_cell HP5.out 5).trans rfl; clear hb hb_))
       | (go_at_call 22; go_loud ((with_reducible refine (impl_ValidWave.calls k A2 c2 l2 true _ (Kd.C_below HR.out HB.out) hc2 HV2.out).mono ?_); rintro e w2 ⟨rfl, hb⟩; have hb_ := hb; clear hcz5_0 hcz5_1 hcz5_2 hcz5_3 hcz5_4 hcz5_5; replace HP5 := Aside0.mk (blk_below HP5.out hb_); replace HB := Aside0.mk (below_step HB.out hb_); have hcz5_0 : World.cell? _ ⟨gp, 0, none⟩ = some (.string a0_0) := (blk_cell HP5.out 0).trans rfl; have hcz5_1 : World.cell? _ ⟨gp, 1, none⟩ = some (.int .i64 a0_1) := (blk_cell HP5.out 1).trans rfl; have hcz5_2 : World.cell? _ ⟨gp, 2, none⟩ = some (.int .i64 a0_2) := (blk_cell HP5.out 2).trans rfl; have hcz5_3 : World.cell? _ ⟨gp, 3, none⟩ = some (.int .i64 a0_3) := (blk_cell HP5.out 3).trans rfl; have hcz5_4 : World.cell? _ ⟨gp, 4, none⟩ = some (.int .i64 a0_4) := (blk_cell HP5.out 4).trans rfl; have hcz5_5 : World.cell? _ ⟨gp, 5, none⟩ = some (.int .i64 a0_5) := (blk_cell HP5.out 5).trans rfl; clear hb hb_))
       | (go_at_call 38; go_loud ((with_reducible refine (impl_flowOk.calls a1 true _ HV3.out).mono ?_); rintro e w2 ⟨rfl, hd⟩; have hb := hd.below; clear hd; have hb_ := hb; clear hcz5_0 hcz5_1 hcz5_2 hcz5_3 hcz5_4 hcz5_5; replace HP5 := Aside0.mk (blk_below HP5.out hb_); replace HB := Aside0.mk (below_step HB.out hb_); have hcz5_0 : World.cell? _ ⟨gp, 0, none⟩ = some (.string a0_0) := (blk_cell HP5.out 0).trans rfl; have hcz5_1 : World.cell? _ ⟨gp, 1, none⟩ = some (.int .i64 a0_1) := (blk_cell HP5.out 1).trans rfl; have hcz5_2 : World.cell? _ ⟨gp, 2, none⟩ = some (.int .i64 a0_2) := (blk_cell HP5.out 2).trans rfl; have hcz5_3 : World.cell? _ ⟨gp, 3, none⟩ = some (.int .i64 a0_3) := (blk_cell HP5.out 3).trans rfl; have hcz5_4 : World.cell? _ ⟨gp, 4, none⟩ = some (.int .i64 a0_4) := (blk_cell HP5.out 4).trans rfl; have hcz5_5 : World.cell? _ ⟨gp, 5, none⟩ = some (.int .i64 a0_5) := (blk_cell HP5.out 5).trans rfl; clear hb hb_))
       | (go_at_call 39; go_loud ((first | (with_reducible refine (impl_degreesOk.calls a3 true _ HV4.out).mono ?_) | (with_reducible refine (impl_degreesOk.calls a4 false _ HV5.out).mono ?_)); (rintro e w2 ⟨rfl, hd⟩); have hb := hd.below; clear hd; have hb_ := hb; clear hcz5_0 hcz5_1 hcz5_2 hcz5_3 hcz5_4 hcz5_5; replace HP5 := Aside0.mk (blk_below HP5.out hb_); replace HB := Aside0.mk (below_step HB.out hb_); have hcz5_0 : World.cell? _ ⟨gp, 0, none⟩ = some (.string a0_0) := (blk_cell HP5.out 0).trans rfl; have hcz5_1 : World.cell? _ ⟨gp, 1, none⟩ = some (.int .i64 a0_1) := (blk_cell HP5.out 1).trans rfl; have hcz5_2 : World.cell? _ ⟨gp, 2, none⟩ = some (.int .i64 a0_2) := (blk_cell HP5.out 2).trans rfl; have hcz5_3 : World.cell? _ ⟨gp, 3, none⟩ = some (.int .i64 a0_3) := (blk_cell HP5.out 3).trans rfl; have hcz5_4 : World.cell? _ ⟨gp, 4, none⟩ = some (.int .i64 a0_4) := (blk_cell HP5.out 4).trans rfl; have hcz5_5 : World.cell? _ ⟨gp, 5, none⟩ = some (.int .i64 a0_5) := (blk_cell HP5.out 5).trans rfl; clear hb hb_)))
      go_ret2
      exact ⟨_, rfl, Kd.R_nil _ _ _ _ _, HB.out⟩
     | true =>
      simp only [if_true] at h
      by_cases c0 : a1 = 0
      ·rw [if_pos c0] at h
       have c0b : (a1 == 0) = true := beq_iff_eq.mpr c0
       have c0d : decide (a1 = 0) = true := decide_eq_true c0
       simp only [Option.some.injEq, Prod.mk.injEq] at h
       obtain ⟨rfl, rfl⟩ := h
       clear c0
       go_enter Try.func14, Try.ntmps14
       go_wp2_with (first
        | ((with_reducible refine gate_dst (N := 5) rfl ?_); refine box_event ?hg (N := 5) ?hd (cs := #[.string a0_0, .int .i64 a0_1, .int .i64 a0_2, .int .i64 a0_3, .int .i64 a0_4, .int .i64 a0_5]) (t := 37) ?hr ?_; (case hd => rfl); (case hg => rfl); (case hr => first | (go_simp; done) | (go_simp; rfl)); intro gp hgp w12 hbox hb; have HP5 := Aside0.mk hbox; have HB := Aside0.mk (below_step (Below.refl _ _) hb); have hcz5_0 : World.cell? _ ⟨gp, 0, none⟩ = some (.string a0_0) := (blk_cell HP5.out 0).trans rfl; have hcz5_1 : World.cell? _ ⟨gp, 1, none⟩ = some (.int .i64 a0_1) := (blk_cell HP5.out 1).trans rfl; have hcz5_2 : World.cell? _ ⟨gp, 2, none⟩ = some (.int .i64 a0_2) := (blk_cell HP5.out 2).trans rfl; have hcz5_3 : World.cell? _ ⟨gp, 3, none⟩ = some (.int .i64 a0_3) := (blk_cell HP5.out 3).trans rfl; have hcz5_4 : World.cell? _ ⟨gp, 4, none⟩ = some (.int .i64 a0_4) := (blk_cell HP5.out 4).trans rfl; have hcz5_5 : World.cell? _ ⟨gp, 5, none⟩ = some (.int .i64 a0_5) := (blk_cell HP5.out 5).trans rfl; clear hb hbox hgp)
        | (go_at_call 37; go_loud ((with_reducible refine (impl_ValidPipe.calls k a0_0 a0_1 a0_2 a0_3 a0_4 a0_5 true _ HV1.out).mono ?_); rintro e w2 ⟨rfl, hb⟩; have hb_ := hb; clear hcz5_0 hcz5_1 hcz5_2 hcz5_3 hcz5_4 hcz5_5; replace HP5 := Aside0.mk (blk_below HP5.out hb_); replace HB := Aside0.mk (below_step HB.out hb_); have hcz5_0 : World.cell? _ ⟨gp, 0, none⟩ = some (.string a0_0) := (blk_cell HP5.out 0).trans rfl; have hcz5_1 : World.cell? _ ⟨gp, 1, none⟩ = some (.int .i64 a0_1) := (blk_cell HP5.out 1).trans rfl; have hcz5_2 : World.cell? _ ⟨gp, 2, none⟩ = some (.int .i64 a0_2) := (blk_cell HP5.out 2).trans rfl; have hcz5_3 : World.cell? _ ⟨gp, 3, none⟩ = some (.int .i64 a0_3) := (blk_cell HP5.out 3).trans rfl; have hcz5_4 : World.cell? _ ⟨gp, 4, none⟩ = some (.int .i64 a0_4) := (blk_cell HP5.out 4).trans rfl; have hcz5_5 : World.cell? _ ⟨gp, 5, none⟩ = some (.int .i64 a0_5) := (blk_cell HP5.out 5).trans rfl; clear hb hb_))
        | (go_at_call 22; go_loud ((with_reducible refine (impl_ValidWave.calls k A2 c2 l2 true _ (Kd.C_below HR.out HB.out) hc2 HV2.out).mono ?_); rintro e w2 ⟨rfl, hb⟩; have hb_ := hb; clear hcz5_0 hcz5_1 hcz5_2 hcz5_3 hcz5_4 hcz5_5; replace HP5 := Aside0.mk (blk_below HP5.out hb_); replace HB := Aside0.mk (below_step HB.out hb_); have hcz5_0 : World.cell? _ ⟨gp, 0, none⟩ = some (.string a0_0) := (blk_cell HP5.out 0).trans rfl; have hcz5_1 : World.cell? _ ⟨gp, 1, none⟩ = some (.int .i64 a0_1) := (blk_cell HP5.out 1).trans rfl; have hcz5_2 : World.cell? _ ⟨gp, 2, none⟩ = some (.int .i64 a0_2) := (blk_cell HP5.out 2).trans rfl; have hcz5_3 : World.cell? _ ⟨gp, 3, none⟩ = some (.int .i64 a0_3) := (blk_cell HP5.out 3).trans rfl; have hcz5_4 : World.cell? _ ⟨gp, 4, none⟩ = some (.int .i64 a0_4) := (blk_cell HP5.out 4).trans rfl; have hcz5_5 : World.cell? _ ⟨gp, 5, none⟩ = some (.int .i64 a0_5) := (blk_cell HP5.out 5).trans rfl; clear hb hb_))
        | (go_at_call 38; go_loud ((with_reducible refine (impl_flowOk.calls a1 true _ HV3.out).mono ?_); rintro e w2 ⟨rfl, hd⟩; have hb := hd.below; clear hd; have hb_ := hb; clear hcz5_0 hcz5_1 hcz5_2 hcz5_3 hcz5_4 hcz5_5; replace HP5 := Aside0.mk (blk_below HP5.out hb_); replace HB := Aside0.mk (below_step HB.out hb_); have hcz5_0 : World.cell? _ ⟨gp, 0, none⟩ = some (.string a0_0) := (blk_cell HP5.out 0).trans rfl; have hcz5_1 : World.cell? _ ⟨gp, 1, none⟩ = some (.int .i64 a0_1) := (blk_cell HP5.out 1).trans rfl; have hcz5_2 : World.cell? _ ⟨gp, 2, none⟩ = some (.int .i64 a0_2) := (blk_cell HP5.out 2).trans rfl; have hcz5_3 : World.cell? _ ⟨gp, 3, none⟩ = some (.int .i64 a0_3) := (blk_cell HP5.out 3).trans rfl; have hcz5_4 : World.cell? _ ⟨gp, 4, none⟩ = some (.int .i64 a0_4) := (blk_cell HP5.out 4).trans rfl; have hcz5_5 : World.cell? _ ⟨gp, 5, none⟩ = some (.int .i64 a0_5) := (blk_cell HP5.out 5).trans rfl; clear hb hb_))
        | (go_at_call 39; go_loud ((first | (with_reducible refine (impl_degreesOk.calls a3 true _ HV4.out).mono ?_) | (with_reducible refine (impl_degreesOk.calls a4 true _ HV5.out).mono ?_)); (rintro e w2 ⟨rfl, hd⟩); have hb := hd.below; clear hd; have hb_ := hb; clear hcz5_0 hcz5_1 hcz5_2 hcz5_3 hcz5_4 hcz5_5; replace HP5 := Aside0.mk (blk_below HP5.out hb_); replace HB := Aside0.mk (below_step HB.out hb_); have hcz5_0 : World.cell? _ ⟨gp, 0, none⟩ = some (.string a0_0) := (blk_cell HP5.out 0).trans rfl; have hcz5_1 : World.cell? _ ⟨gp, 1, none⟩ = some (.int .i64 a0_1) := (blk_cell HP5.out 1).trans rfl; have hcz5_2 : World.cell? _ ⟨gp, 2, none⟩ = some (.int .i64 a0_2) := (blk_cell HP5.out 2).trans rfl; have hcz5_3 : World.cell? _ ⟨gp, 3, none⟩ = some (.int .i64 a0_3) := (blk_cell HP5.out 3).trans rfl; have hcz5_4 : World.cell? _ ⟨gp, 4, none⟩ = some (.int .i64 a0_4) := (blk_cell HP5.out 4).trans rfl; have hcz5_5 : World.cell? _ ⟨gp, 5, none⟩ = some (.int .i64 a0_5) := (blk_cell HP5.out 5).trans rfl; clear hb hb_)))
       go_ret2
       exact ⟨_, rfl, Kd.R_nil _ _ _ _ _, HB.out⟩
      ·rw [if_neg c0] at h
       have c0b : (a1 == 0) = false := beq_eq_false_iff_ne.mpr c0
       have c0d : decide (a1 = 0) = false := decide_eq_false c0
       clear c0
       obtain ⟨c, h_, h⟩ := Option.bind_eq_some_iff.mp h
       have HC := Aside0.mk h_
       clear h_
       obtain ⟨xs, h_, h⟩ := Option.bind_eq_some_iff.mp h
       have HL := Aside0.mk h_
       clear h_
       obtain ⟨d, h_, h⟩ := Option.bind_eq_some_iff.mp h
       have HDl := Aside0.mk h_
       clear h_
       obtain ⟨y, h_, h⟩ := Option.bind_eq_some_iff.mp h
       have HY := Aside0.mk h_
       clear h_
       have HT := Aside0.mk h
       clear h
       go_enter Try.func14, Try.ntmps14
       go_wp2_with (first
        | ((with_reducible refine gate_dst (N := 5) rfl ?_); refine box_event ?hg (N := 5) ?hd (cs := #[.string a0_0, .int .i64 a0_1, .int .i64 a0_2, .int .i64 a0_3, .int .i64 a0_4, .int .i64 a0_5]) (t := 37) ?hr ?_; (case hd => rfl); (case hg => rfl); (case hr => first | (go_simp; done) | (go_simp; rfl)); intro gp hgp w12 hbox hb; have HP5 := Aside0.mk hbox; have HB := Aside0.mk (below_step (Below.refl _ _) hb); have hcz5_0 : World.cell? _ ⟨gp, 0, none⟩ = some (.string a0_0) := (blk_cell HP5.out 0).trans rfl; have hcz5_1 : World.cell? _ ⟨gp, 1, none⟩ = some (.int .i64 a0_1) := (blk_cell HP5.out 1).trans rfl; have hcz5_2 : World.cell? _ ⟨gp, 2, none⟩ = some (.int .i64 a0_2) := (blk_cell HP5.out 2).trans rfl; have hcz5_3 : World.cell? _ ⟨gp, 3, none⟩ = some (.int .i64 a0_3) := (blk_cell HP5.out 3).trans rfl; have hcz5_4 : World.cell? _ ⟨gp, 4, none⟩ = some (.int .i64 a0_4) := (blk_cell HP5.out 4).trans rfl; have hcz5_5 : World.cell? _ ⟨gp, 5, none⟩ = some (.int .i64 a0_5) := (blk_cell HP5.out 5).trans rfl; clear hb hbox hgp)
        | (go_at_call 37; go_loud ((with_reducible refine (impl_ValidPipe.calls k a0_0 a0_1 a0_2 a0_3 a0_4 a0_5 true _ HV1.out).mono ?_); rintro e w2 ⟨rfl, hb⟩; have hb_ := hb; clear hcz5_0 hcz5_1 hcz5_2 hcz5_3 hcz5_4 hcz5_5; replace HP5 := Aside0.mk (blk_below HP5.out hb_); replace HB := Aside0.mk (below_step HB.out hb_); have hcz5_0 : World.cell? _ ⟨gp, 0, none⟩ = some (.string a0_0) := (blk_cell HP5.out 0).trans rfl; have hcz5_1 : World.cell? _ ⟨gp, 1, none⟩ = some (.int .i64 a0_1) := (blk_cell HP5.out 1).trans rfl; have hcz5_2 : World.cell? _ ⟨gp, 2, none⟩ = some (.int .i64 a0_2) := (blk_cell HP5.out 2).trans rfl; have hcz5_3 : World.cell? _ ⟨gp, 3, none⟩ = some (.int .i64 a0_3) := (blk_cell HP5.out 3).trans rfl; have hcz5_4 : World.cell? _ ⟨gp, 4, none⟩ = some (.int .i64 a0_4) := (blk_cell HP5.out 4).trans rfl; have hcz5_5 : World.cell? _ ⟨gp, 5, none⟩ = some (.int .i64 a0_5) := (blk_cell HP5.out 5).trans rfl; clear hb hb_))
        | (go_at_call 22; go_loud ((with_reducible refine (impl_ValidWave.calls k A2 c2 l2 true _ (Kd.C_below HR.out HB.out) hc2 HV2.out).mono ?_); rintro e w2 ⟨rfl, hb⟩; have hb_ := hb; clear hcz5_0 hcz5_1 hcz5_2 hcz5_3 hcz5_4 hcz5_5; replace HP5 := Aside0.mk (blk_below HP5.out hb_); replace HB := Aside0.mk (below_step HB.out hb_); have hcz5_0 : World.cell? _ ⟨gp, 0, none⟩ = some (.string a0_0) := (blk_cell HP5.out 0).trans rfl; have hcz5_1 : World.cell? _ ⟨gp, 1, none⟩ = some (.int .i64 a0_1) := (blk_cell HP5.out 1).trans rfl; have hcz5_2 : World.cell? _ ⟨gp, 2, none⟩ = some (.int .i64 a0_2) := (blk_cell HP5.out 2).trans rfl; have hcz5_3 : World.cell? _ ⟨gp, 3, none⟩ = some (.int .i64 a0_3) := (blk_cell HP5.out 3).trans rfl; have hcz5_4 : World.cell? _ ⟨gp, 4, none⟩ = some (.int .i64 a0_4) := (blk_cell HP5.out 4).trans rfl; have hcz5_5 : World.cell? _ ⟨gp, 5, none⟩ = some (.int .i64 a0_5) := (blk_cell HP5.out 5).trans rfl; clear hb hb_))
        | (go_at_call 38; go_loud ((with_reducible refine (impl_flowOk.calls a1 true _ HV3.out).mono ?_); rintro e w2 ⟨rfl, hd⟩; have hb := hd.below; clear hd; have hb_ := hb; clear hcz5_0 hcz5_1 hcz5_2 hcz5_3 hcz5_4 hcz5_5; replace HP5 := Aside0.mk (blk_below HP5.out hb_); replace HB := Aside0.mk (below_step HB.out hb_); have hcz5_0 : World.cell? _ ⟨gp, 0, none⟩ = some (.string a0_0) := (blk_cell HP5.out 0).trans rfl; have hcz5_1 : World.cell? _ ⟨gp, 1, none⟩ = some (.int .i64 a0_1) := (blk_cell HP5.out 1).trans rfl; have hcz5_2 : World.cell? _ ⟨gp, 2, none⟩ = some (.int .i64 a0_2) := (blk_cell HP5.out 2).trans rfl; have hcz5_3 : World.cell? _ ⟨gp, 3, none⟩ = some (.int .i64 a0_3) := (blk_cell HP5.out 3).trans rfl; have hcz5_4 : World.cell? _ ⟨gp, 4, none⟩ = some (.int .i64 a0_4) := (blk_cell HP5.out 4).trans rfl; have hcz5_5 : World.cell? _ ⟨gp, 5, none⟩ = some (.int .i64 a0_5) := (blk_cell HP5.out 5).trans rfl; clear hb hb_))
        | (go_at_call 39; go_loud ((first | (with_reducible refine (impl_degreesOk.calls a3 true _ HV4.out).mono ?_) | (with_reducible refine (impl_degreesOk.calls a4 true _ HV5.out).mono ?_)); (rintro e w2 ⟨rfl, hd⟩); have hb := hd.below; clear hd; have hb_ := hb; clear hcz5_0 hcz5_1 hcz5_2 hcz5_3 hcz5_4 hcz5_5; replace HP5 := Aside0.mk (blk_below HP5.out hb_); replace HB := Aside0.mk (below_step HB.out hb_); have hcz5_0 : World.cell? _ ⟨gp, 0, none⟩ = some (.string a0_0) := (blk_cell HP5.out 0).trans rfl; have hcz5_1 : World.cell? _ ⟨gp, 1, none⟩ = some (.int .i64 a0_1) := (blk_cell HP5.out 1).trans rfl; have hcz5_2 : World.cell? _ ⟨gp, 2, none⟩ = some (.int .i64 a0_2) := (blk_cell HP5.out 2).trans rfl; have hcz5_3 : World.cell? _ ⟨gp, 3, none⟩ = some (.int .i64 a0_3) := (blk_cell HP5.out 3).trans rfl; have hcz5_4 : World.cell? _ ⟨gp, 4, none⟩ = some (.int .i64 a0_4) := (blk_cell HP5.out 4).trans rfl; have hcz5_5 : World.cell? _ ⟨gp, 5, none⟩ = some (.int .i64 a0_5) := (blk_cell HP5.out 5).trans rfl; clear hb hb_))
        | (go_at_call 40; go_loud ((with_reducible refine (slices_Clone_StepS.calls A2 c2 l2 c _ (Kd.C_below HR.out HB.out) hc2 HC.out).mono ?_); rintro e w2 ⟨v0, rfl, hrow, hb⟩; have HO := Aside0.mk (Kd.R_lower hrow HB.out.size); have hb_ := hb; clear hcz5_0 hcz5_1 hcz5_2 hcz5_3 hcz5_4 hcz5_5; replace HP5 := Aside0.mk (blk_below HP5.out hb_); replace HB := Aside0.mk (below_step HB.out hb_); have hcz5_0 : World.cell? _ ⟨gp, 0, none⟩ = some (.string a0_0) := (blk_cell HP5.out 0).trans rfl; have hcz5_1 : World.cell? _ ⟨gp, 1, none⟩ = some (.int .i64 a0_1) := (blk_cell HP5.out 1).trans rfl; have hcz5_2 : World.cell? _ ⟨gp, 2, none⟩ = some (.int .i64 a0_2) := (blk_cell HP5.out 2).trans rfl; have hcz5_3 : World.cell? _ ⟨gp, 3, none⟩ = some (.int .i64 a0_3) := (blk_cell HP5.out 3).trans rfl; have hcz5_4 : World.cell? _ ⟨gp, 4, none⟩ = some (.int .i64 a0_4) := (blk_cell HP5.out 4).trans rfl; have hcz5_5 : World.cell? _ ⟨gp, 5, none⟩ = some (.int .i64 a0_5) := (blk_cell HP5.out 5).trans rfl; clear hb hb_; clear hrow; obtain ⟨Ao, co, rfl⟩ := Kd.R_slice HO.out)))
       go_loopg [45] k (fun kq v45 w' => ∃ (x : List (S49)) (i : Int), v45 = .int .i64 i ∧ Aside0 (impl_ThroughPipe.l0 a0_0 a0_1 a0_2 a0_3 a0_4 a0_5 a1 a3 kq x i = some xs) ∧ Aside0 (kq ≤ k) ∧ Aside0 (Kd.R k49 49 w' w.heap.size (fun _ => True) (.slice Ao c.length co) x) ∧ Aside0 (w'.heap[gp]? = some (.cells #[.string a0_0, .int .i64 a0_1, .int .i64 a0_2, .int .i64 a0_3, .int .i64 a0_4, .int .i64 a0_5] 37 (0, 0))) ∧ Aside0 (Below w.heap.size w w'))
       case atStart => exact ⟨c, 0, rfl, HL, ⟨Nat.le_refl _⟩, HO, HP5, HB⟩
       case round =>
        clear HL
        obtain ⟨x, i, rfl, HA, HK1, HO, HP5, HB⟩ := hrel
        have hl := (Kd.R_reads' HO.out).1
        cases gk with
        | zero => exact absurd HA.out (by simp [impl_ThroughPipe.l0])
        | succ k1 =>
         have H := HA.out
         clear HA
         simp only [impl_ThroughPipe.l0] at H
         by_cases q1 : i < (x.length : Int)
         ·rw [if_pos q1] at H
          by_cases p1 : 0 ≤ i
          ·rw [if_pos p1] at H
           obtain ⟨t, ht, H⟩ := Option.bind_eq_some_iff.mp H
           have HE := Aside0.mk ht
           have HN := Aside0.mk H
           clear ht H
           rw [hl] at HO ⊢
           obtain ⟨go, co', eo, gb, gl, cells, HG⟩ := Kd.R_form HO.out (by omega)
           injection eo with e1 e2 e3
           subst e1
           subst e3
           have GB := Aside0.mk gb
           have hng : gp ≠ go := blk_ne HP5.out HG (by decide)
           clear gb gl HG e2
           obtain ⟨ce, hcl, hM, hcc, hfr⟩ := Kd.R_elem HO.out z49 i p1 q1
           obtain rfl := k49_openM hM
           have hx0 : wr.cell? ⟨go, i.toNat * 2, none⟩ = some (.int .i64 (rd_T49 x i).f0) := hcc 0 _ rfl
           have hx1 : wr.cell? ⟨go, i.toNat * 2 + 1, none⟩ = some (.int .i64 (rd_T49 x i).f1) := hcc 1 _ rfl
           clear hcl hM hcc hfr
           have hcz5_0 : World.cell? _ ⟨gp, 0, none⟩ = some (.string a0_0) := (blk_cell HP5.out 0).trans rfl
           have hcz5_1 : World.cell? _ ⟨gp, 1, none⟩ = some (.int .i64 a0_1) := (blk_cell HP5.out 1).trans rfl
           have hcz5_2 : World.cell? _ ⟨gp, 2, none⟩ = some (.int .i64 a0_2) := (blk_cell HP5.out 2).trans rfl
           have hcz5_3 : World.cell? _ ⟨gp, 3, none⟩ = some (.int .i64 a0_3) := (blk_cell HP5.out 3).trans rfl
           have hcz5_4 : World.cell? _ ⟨gp, 4, none⟩ = some (.int .i64 a0_4) := (blk_cell HP5.out 4).trans rfl
           have hcz5_5 : World.cell? _ ⟨gp, 5, none⟩ = some (.int .i64 a0_5) := (blk_cell HP5.out 5).trans rfl
           have q1b : decide (i < (x.length : Int)) = true := decide_eq_true q1
           have p1b : decide (0 ≤ i) = true := decide_eq_true p1
           have p1t := eq_true p1
           have q1t := eq_true q1
           have HLN := Aside0.mk hl
           clear hl
           go_wp2_with (first
            | ((with_reducible refine gate_dst (N := 14) rfl ?_); refine box_event ?hg (N := 14) ?hd (cs := #[.int .i64 0, .int .i64 0]) (t := 49) ?hr ?_; (case hd => rfl); (case hg => rfl); (case hr => first | (go_simp; done) | (go_simp; rfl)); intro gx hgx w12 hbx hb; have HX := Aside0.mk hbx; replace HO := Aside0.mk (Kd.R_below (Kd.R_elderB HO.out gx (Nat.le_of_eq hgx.symm)) hb); have HBo := HB; have HP5o := HP5; have hb_ := hb; clear hcz5_0 hcz5_1 hcz5_2 hcz5_3 hcz5_4 hcz5_5; replace HP5 := Aside0.mk (blk_below HP5.out hb_); replace HB := Aside0.mk (below_step HB.out hb_); have hcz5_0 : World.cell? _ ⟨gp, 0, none⟩ = some (.string a0_0) := (blk_cell HP5.out 0).trans rfl; have hcz5_1 : World.cell? _ ⟨gp, 1, none⟩ = some (.int .i64 a0_1) := (blk_cell HP5.out 1).trans rfl; have hcz5_2 : World.cell? _ ⟨gp, 2, none⟩ = some (.int .i64 a0_2) := (blk_cell HP5.out 2).trans rfl; have hcz5_3 : World.cell? _ ⟨gp, 3, none⟩ = some (.int .i64 a0_3) := (blk_cell HP5.out 3).trans rfl; have hcz5_4 : World.cell? _ ⟨gp, 4, none⟩ = some (.int .i64 a0_4) := (blk_cell HP5.out 4).trans rfl; have hcz5_5 : World.cell? _ ⟨gp, 5, none⟩ = some (.int .i64 a0_5) := (blk_cell HP5.out 5).trans rfl; clear hb hb_; have hne : gp ≠ gx := (by rw [hgx]; exact Nat.ne_of_lt (by have h9_ := blk_lt HP5o.out; exact h9_)); have hcz14_0 : w12.cell? ⟨gx, 0, none⟩ = some (.int .i64 0) := (blk_cell HX.out 0).trans rfl; have hcz14_1 : w12.cell? ⟨gx, 1, none⟩ = some (.int .i64 0) := (blk_cell HX.out 1).trans rfl; have hfz14_0 := blk_frozen HX.out 0; have hfz14_1 := blk_frozen HX.out 1; have GX := Aside0.mk ((by rw [hgx]; exact HBo.out.size) : w.heap.size ≤ gx); clear hbx hgx hx0 hx1 HBo HP5o)
            | (go_at_call 41; go_loud (replace HO := Aside0.mk (Kd.R_far (p := ⟨gx, 1, none⟩) (Kd.R_far (p := ⟨gx, 0, none⟩) HO.out (fun _ h_ => h_.2) (.int .i64 (rd_T49 x i).f0)) (fun _ h_ => h_.2) (.int .i64 (rd_T49 x i).f1)); replace HP5 := Aside0.mk (blk_far (blk_far HP5.out (p := ⟨gx, 0, none⟩) hne (.int .i64 (rd_T49 x i).f0)) (p := ⟨gx, 1, none⟩) hne (.int .i64 (rd_T49 x i).f1)); replace HB := Aside0.mk (below_set (j := 1) (v := .int .i64 (rd_T49 x i).f1) (below_set (j := 0) (v := .int .i64 (rd_T49 x i).f0) HB.out GX.out) GX.out); (with_reducible refine (impl_Pipe_endTemperature.calls a0_0 a0_1 a0_2 a0_3 a0_4 a0_5 a1 (rd_T49 x i).f1 a3 t _ HE.out).mono ?_); rintro e w2 ⟨rfl, hb⟩; replace HO := Aside0.mk (Kd.R_mono (ok' := fun _ => True) (Kd.R_below HO.out hb) (fun _ _ => trivial)); have hb_ := hb; clear hcz5_0 hcz5_1 hcz5_2 hcz5_3 hcz5_4 hcz5_5; replace HP5 := Aside0.mk (blk_below HP5.out hb_); replace HB := Aside0.mk (below_step HB.out hb_); have hcz5_0 : World.cell? _ ⟨gp, 0, none⟩ = some (.string a0_0) := (blk_cell HP5.out 0).trans rfl; have hcz5_1 : World.cell? _ ⟨gp, 1, none⟩ = some (.int .i64 a0_1) := (blk_cell HP5.out 1).trans rfl; have hcz5_2 : World.cell? _ ⟨gp, 2, none⟩ = some (.int .i64 a0_2) := (blk_cell HP5.out 2).trans rfl; have hcz5_3 : World.cell? _ ⟨gp, 3, none⟩ = some (.int .i64 a0_3) := (blk_cell HP5.out 3).trans rfl; have hcz5_4 : World.cell? _ ⟨gp, 4, none⟩ = some (.int .i64 a0_4) := (blk_cell HP5.out 4).trans rfl; have hcz5_5 : World.cell? _ ⟨gp, 5, none⟩ = some (.int .i64 a0_5) := (blk_cell HP5.out 5).trans rfl; clear hb hb_; obtain ⟨ce, hcl, hM, hcc, hfr⟩ := Kd.R_elem HO.out z49 i p1 q1; obtain rfl := k49_openM hM; have hy1 : w2.cell? ⟨go, i.toNat * 2 + 1, none⟩ = some (.int .i64 (rd_T49 x i).f1) := hcc 1 _ rfl; have hf1 : w2.frozen? ⟨go, i.toNat * 2 + 1, none⟩ = false := hfr 1; have HSG := Aside0.mk (Kd.R_seg HO.out i p1 q1 (seg := [.int .i64 t]) (j := 1) hcl hcc (show 2 ≤ 2 from by decide) (x' := (⟨(rd_T49 x i).f0, t⟩ : S49)) (k49_mkM _ _ _ (⟨(rd_T49 x i).f0, t⟩ : S49)) (fun _ hk => hk)); clear hcl hM hcc hfr hcz14_0 hcz14_1)))
           have HO9 := Aside0.mk (show Kd.R k49 49 (w2.setCell ⟨go, i.toNat * 2 + 1, none⟩ (.int .i64 t)) w.heap.size (fun _ => True) (.slice (some ⟨go, 0, none⟩) x.length co) (x.set i.toNat ⟨(rd_T49 x i).f0, t⟩) from Kd.R_mono HSG.out.1 (fun _ _ => trivial))
           have HP9 := Aside0.mk (blk_far HP5.out (p := ⟨go, i.toNat * 2 + 1, none⟩) hng (.int .i64 t))
           have HB9 := Aside0.mk (below_set (j := i.toNat * 2 + 1) (v := .int .i64 t) HB.out GB.out)
           simp only [← HLN.out]
           go_roundg k1
           case measure => have := HK1.out; omega
           case rel => exact ⟨_, _, rfl, HN, ⟨by have := HK1.out; omega⟩, ⟨by rw [HLN.out]; exact HO9.out⟩, HP9, HB9⟩
          ·rw [if_neg p1] at H
           exact absurd H (by simp)
         ·rw [if_neg q1] at H
          have q1b : decide (i < (x.length : Int)) = false := decide_eq_false q1
          obtain rfl := Option.some.inj H
          have HLN := Aside0.mk hl
          rw [hl] at HO ⊢
          clear hl
          have hcz5_0 : World.cell? _ ⟨gp, 0, none⟩ = some (.string a0_0) := (blk_cell HP5.out 0).trans rfl
          have hcz5_1 : World.cell? _ ⟨gp, 1, none⟩ = some (.int .i64 a0_1) := (blk_cell HP5.out 1).trans rfl
          have hcz5_2 : World.cell? _ ⟨gp, 2, none⟩ = some (.int .i64 a0_2) := (blk_cell HP5.out 2).trans rfl
          have hcz5_3 : World.cell? _ ⟨gp, 3, none⟩ = some (.int .i64 a0_3) := (blk_cell HP5.out 3).trans rfl
          have hcz5_4 : World.cell? _ ⟨gp, 4, none⟩ = some (.int .i64 a0_4) := (blk_cell HP5.out 4).trans rfl
          have hcz5_5 : World.cell? _ ⟨gp, 5, none⟩ = some (.int .i64 a0_5) := (blk_cell HP5.out 5).trans rfl
          go_wp2_with (first
           | (go_at_call 43; go_loud ((with_reducible refine (impl_Pipe_delay.calls a0_0 a0_1 a0_2 a0_3 a0_4 a0_5 a1 d _ HDl.out).mono ?_); rintro e w2 ⟨rfl, hb⟩; replace HO := Aside0.mk (Kd.R_below HO.out hb); replace HB := Aside0.mk (below_step HB.out hb); clear hb))
           | (go_at_call 42; go_loud ((with_reducible refine (impl_delayed.calls k (fun _ => True) _ x d a4 y w _ HB.out HO.out HY.out).mono ?_); rintro e w2 ⟨v1, rfl, hrow, hb, hk⟩; have HO2 := Aside0.mk hrow; replace HB := Aside0.mk hb; clear hrow hb hk; obtain ⟨A5, c5, rfl⟩ := Kd.R_slice HO2.out))
           | (go_at_call 29; go_loud ((with_reducible refine (impl_trimmedWave.calls k A5 c5 y r1 r2 _ (Kd.R_reads' HO2.out).2.2 (Kd.R_reads' HO2.out).2.1 HT.out).mono ?_); rintro e w2 ⟨v2, rfl, hrow, hb⟩; have HO3 := Aside0.mk (Kd.R_lower hrow HB.out.size); replace HB := Aside0.mk (below_step HB.out hb); clear hrow hb)))
          go_ret2
          exact ⟨_, rfl, HO3.out, HB.out⟩
end Go.Proofs.Ytmmlhbfkchbpaaa.XX
end

section
namespace Go.Proofs.Ytmmlhbfkchbpaaa.XX
open Go.RowKit Go.Proofs.YtmmlhbfkchbpaaaW.PrintWords Go.Proofs.YtmmlhbfkchbpaaaW.PrintLast Go.Proofs.YtmmlhbfkchbpaaaW.PrintMore
attribute [local go_sem] run_eql_slice_nil binOp_string_gtr' binOp_string_leq' binOp_string_geq' max2_int min2_int max_two min_two max_three min_three max_four min_four   -- for this text's walks alone
set_option linter.unusedVariables false
set_option linter.unusedSimpArgs false
def spec_l01Small.f (a0 : Int) : Option (Bool) := if a0 ≥ 97 then (some (decide (a0 ≤ 122))) else (some false)
set_option maxHeartbeats 8000000 in
set_option maxRecDepth 100000 in
theorem spec_l01Small.calls (a0 : Int) (r : Bool) (w : World) (h : spec_l01Small.f a0 = some r) :
  Calls Try.prog 96 #[.int .u8 a0] w fun e w' => e = .returned (.bool r) ∧ Drawn0 w w' := by
 have H : (if a0 ≥ 97 then (some (decide (a0 ≤ 122))) else (some false)) = some r := h
 clear h
 by_cases c2 : a0 ≥ 97
 ·rw [if_pos c2] at H
  have c2b0 : decide (97 ≤ a0) = true := decide_eq_true c2
  clear c2
  obtain rfl := Option.some.inj H
  go_enter Try.func96, Try.ntmps96
  go_wp2
  go_ret
  exact ⟨sZ, dZ⟩
 ·rw [if_neg c2] at H
  have c2b0 : decide (97 ≤ a0) = false := decide_eq_false c2
  clear c2
  obtain rfl := Option.some.inj H
  go_enter Try.func96, Try.ntmps96
  go_wp2
  go_ret
  exact ⟨sZ, dZ⟩
def spec_l01Digit.f (a0 : Int) : Option (Bool) := if a0 ≥ 48 then (some (decide (a0 ≤ 57))) else (some false)
set_option maxHeartbeats 8000000 in
set_option maxRecDepth 100000 in
theorem spec_l01Digit.calls (a0 : Int) (r : Bool) (w : World) (h : spec_l01Digit.f a0 = some r) :
  Calls Try.prog 97 #[.int .u8 a0] w fun e w' => e = .returned (.bool r) ∧ Drawn0 w w' := by
 have H : (if a0 ≥ 48 then (some (decide (a0 ≤ 57))) else (some false)) = some r := h
 clear h
 by_cases c2 : a0 ≥ 48
 ·rw [if_pos c2] at H
  have c2b0 : decide (48 ≤ a0) = true := decide_eq_true c2
  clear c2
  obtain rfl := Option.some.inj H
  go_enter Try.func97, Try.ntmps97
  go_wp2
  go_ret
  exact ⟨sZ, dZ⟩
 ·rw [if_neg c2] at H
  have c2b0 : decide (48 ≤ a0) = false := decide_eq_false c2
  clear c2
  obtain rfl := Option.some.inj H
  go_enter Try.func97, Try.ntmps97
  go_wp2
  go_ret
  exact ⟨sZ, dZ⟩
end Go.Proofs.Ytmmlhbfkchbpaaa.XX
end

section
namespace Go.Proofs.Ytmmlhbfkchbpaaa.XX
open Go.RowKit Go.Proofs.YtmmlhbfkchbpaaaW.PrintWords Go.Proofs.YtmmlhbfkchbpaaaW.PrintLast Go.Proofs.YtmmlhbfkchbpaaaW.PrintMore
attribute [local go_sem] run_eql_slice_nil binOp_string_gtr' binOp_string_leq' binOp_string_geq' max2_int min2_int max_two min_two max_three min_three max_four min_four   -- for this text's walks alone
set_option linter.unusedVariables false
set_option linter.unusedSimpArgs false
mutual
def spec_l01Name.j0 : Nat → ByteArray → Bool → Option (Bool)
 | 0, _, _ => none
 | k + 1, x0, x16 => if x16 = true then (some false) else (spec_l01Name.l0 k x0 0)
def spec_l01Name.l0 : Nat → ByteArray → Int → Option (Bool)
 | 0, _, _ => none
 | k + 1, x0, x3 => if x3 < (x0.size : Int) then (if 0 ≤ x3 then ((spec_l01Small.f (bt x0 x3)).bind fun t339 => (if t339 = true then (spec_l01Name.l0 k x0 (wrap64 (x3 + 1))) else ((spec_l01Digit.f (bt x0 x3)).bind fun t340 => (if t340 = true then (spec_l01Name.l0 k x0 (wrap64 (x3 + 1))) else (some false))))) else (none)) else (some true)
end
def spec_l01Name.f (k : Nat) (a0 : ByteArray) : Option (Bool) := if a0.toList = ([] : List UInt8) then (spec_l01Name.j0 k a0 true) else (if (a0.size : Int) > 10 then (spec_l01Name.j0 k a0 true) else (if 0 < (a0.size : Int) then ((spec_l01Small.f (bt a0 0)).bind fun t338 => (spec_l01Name.j0 k a0 (!t338))) else (none)))
set_option maxHeartbeats 8000000 in
set_option maxRecDepth 100000 in
theorem spec_l01Name.calls (k : Nat) (a0 : ByteArray) (r : Bool) (w : World) (h : spec_l01Name.f k a0 = some r) :
  Calls Try.prog 89 #[.string a0] w fun e w' => e = .returned (.bool r) ∧ Drawn0 w w' := by
 have H : (if a0.toList = ([] : List UInt8) then (spec_l01Name.j0 k a0 true) else (if (a0.size : Int) > 10 then (spec_l01Name.j0 k a0 true) else (if 0 < (a0.size : Int) then ((spec_l01Small.f (bt a0 0)).bind fun t338 => (spec_l01Name.j0 k a0 (!t338))) else (none)))) = some r := h
 clear h
 have HC2 := Aside0.mk H
 clear H
 go_enter Try.func89, Try.ntmps89
 go_upto_region 1 with (fail)
 go_cut [16] (fun v16 wc => ∃ (kq : Nat) (x16_1 : Bool), v16 = .bool x16_1 ∧ Aside0 (spec_l01Name.j0 kq a0 x16_1 = some r) ∧ Aside0 (kq ≤ k) ∧ Drawn0 w wc)
 case first =>
  have H := HC2.out
  clear HC2
  by_cases c3 : a0.toList = ([] : List UInt8)
  ·rw [if_pos c3] at H
   have c3b0 : (a0.toList == ([] : List UInt8)) = true := beq_iff_eq.mpr c3
   have c3b1 : (a0.toList != ([] : List UInt8)) = false := bne_eq_false_iff_eq.mpr c3
   clear c3
   (first | rw [c3b0] | (simp only [i64_w, i32_w]; rw [c3b0]) | skip)
   have H' := Aside0.mk H
   clear H
   go_wp2
   go_meet
   case rel => exact ⟨_, (true), sZ, H', ⟨by first | omega | exact Nat.le_refl _⟩, dZ⟩
  ·rw [if_neg c3] at H
   have c3b0 : (a0.toList == ([] : List UInt8)) = false := beq_eq_false_iff_ne.mpr c3
   have c3b1 : (a0.toList != ([] : List UInt8)) = true := bne_iff_ne.mpr c3
   (first | rw [c3b0] | (simp only [i64_w, i32_w]; rw [c3b0]) | skip)
   by_cases c4 : (a0.size : Int) > 10
   ·rw [if_pos c4] at H
    have c4b0 : decide (10 < (a0.size : Int)) = true := decide_eq_true c4
    have c4b1 : decide (10 < a0.size) = true := decide_eq_true (by omega)
    clear c4
    have H' := Aside0.mk H
    clear H
    go_wp2
    go_meet
    case rel => exact ⟨_, (true), sZ, H', ⟨by first | omega | exact Nat.le_refl _⟩, dZ⟩
   ·rw [if_neg c4] at H
    have c4b0 : decide (10 < (a0.size : Int)) = false := decide_eq_false c4
    have c4b1 : decide (10 < a0.size) = false := decide_eq_false (by omega)
    clear c4
    by_cases c5 : 0 < (a0.size : Int)
    ·rw [if_pos c5] at H
     have c5b0 : decide (0 < (a0.size : Int)) = true := decide_eq_true c5
     have c5b1 : decide (0 < a0.size) = true := decide_eq_true (by omega)
     clear c5
     replace H := Option.bind_eq_some_iff.mp H
     obtain ⟨t338, A70, H⟩ := H
     replace H : (spec_l01Name.j0 k a0 (!t338)) = some r := H
     have A7 := Aside0.mk A70
     clear A70
     have H' := Aside0.mk H
     clear H
     have p6 : 0 ≤ (0 : Int) := (by omega)
     have q6 : 0 < a0.size := (by have : (0 : Int) < (a0.size : Int) := oZ; omega)
     have hx6 : ∀ h : 0 < a0.size, ((a0[0]'h).toNat : Int) = bt a0 0 := bt_at a0 0
     clear p6
     have qi6 : (0 < (a0.size : Int)) = True := eq_true oZ
     replace q6 := eq_true q6
     go_wp2_with (first | (go_at_call 96; (with_reducible refine (spec_l01Small.calls (bt a0 0) t338 _ A7.out).mono ?_); rintro e w' ⟨rfl, ⟨nd, rfl⟩⟩))
     go_meet
     case rel => exact ⟨_, (!t338), sZ, H', ⟨by first | omega | exact Nat.le_refl _⟩, dZ⟩
    ·rw [if_neg c5] at H
     exact absurd H (by simp)
 case rest =>
  clear HC2; (try clear p2); (try clear c3); (try clear c3b0); (try clear c3b1); (try clear c4); (try clear c4b0); (try clear c4b1); (try clear c5); (try clear c5b0); (try clear c5b1); (try clear p6); (try clear q6); (try clear hx6); (try clear qi6); (try clear p6); (try clear q6)
  obtain ⟨kq, x16_1, rfl, HA, HJ1, ⟨mc1, rfl⟩⟩ := hcut
  cases kq with
  | zero => exact absurd HA.out (by simp [spec_l01Name.j0])
  | succ kj1 =>
   have H := HA.out
   clear HA
   simp only [spec_l01Name.j0] at H
   by_cases c8 : x16_1 = true
   ·subst c8
    have H1 : (some false) = some r := by rw [if_pos rfl] at H; exact H
    clear H
    have H := H1
    clear H1
    obtain rfl := Option.some.inj H
    go_wp2
    go_ret
    exact ⟨sZ, dZ⟩
   ·replace c8 := Bool.eq_false_iff.mpr c8
    subst c8
    have H1 : (spec_l01Name.l0 kj1 a0 0) = some r := by rw [if_neg (show ¬ (false = true) by decide)] at H; exact H
    clear H
    have H := H1
    clear H1
    have H' := Aside0.mk H
    clear H
    go_wp2
    go_loopg [3] kj1 (fun kq v3 w' => ∃ (x3_2 : Int), v3 = .int .i64 x3_2 ∧ Aside0 (spec_l01Name.l0 kq a0 x3_2 = some r) ∧ Aside0 (kq ≤ kj1) ∧ Drawn0 w w')
    case atStart => exact ⟨(0), sZ, H', ⟨Nat.le_refl _⟩, dZ⟩
    case round =>
     clear H'; (try clear c1); (try clear p2); (try clear c3); (try clear c3b0); (try clear c3b1); (try clear c4); (try clear c4b0); (try clear c4b1); (try clear c5); (try clear c5b0); (try clear c5b1); (try clear p6); (try clear q6); (try clear hx6); (try clear qi6); (try clear c8); (try clear p2); (try clear p6); (try clear q6)
     obtain ⟨x3_2, rfl, HA, HK2, ⟨m2, rfl⟩⟩ := hrel
     cases gk with
     | zero => exact absurd HA.out (by simp [spec_l01Name.l0])
     | succ k2 =>
      have H := HA.out
      clear HA
      simp only [spec_l01Name.l0] at H
      by_cases c9 : x3_2 < (a0.size : Int)
      ·rw [if_pos c9] at H
       have c9b0 : decide (x3_2 < (a0.size : Int)) = true := decide_eq_true c9
       clear c9
       by_cases c10 : 0 ≤ x3_2
       ·rw [if_pos c10] at H
        have c10b0 : decide (0 ≤ x3_2) = true := decide_eq_true c10
        clear c10
        replace H := Option.bind_eq_some_iff.mp H
        obtain ⟨t339, A120, H⟩ := H
        replace H : (if t339 = true then (spec_l01Name.l0 k2 a0 (wrap64 (x3_2 + 1))) else ((spec_l01Digit.f (bt a0 x3_2)).bind fun t340 => (if t340 = true then (spec_l01Name.l0 k2 a0 (wrap64 (x3_2 + 1))) else (some false)))) = some r := H
        have A12 := Aside0.mk A120
        clear A120
        by_cases c13 : t339 = true
        ·subst c13
         have H1 : (spec_l01Name.l0 k2 a0 (wrap64 (x3_2 + 1))) = some r := by rw [if_pos rfl] at H; exact H
         clear H
         have H := H1
         clear H1
         have H' := Aside0.mk H
         clear H
         have p11 : 0 ≤ (x3_2 : Int) := oZ
         have q11 : x3_2 < (a0.size : Int) := oZ
         have hx11 := bt_at a0 x3_2
         replace p11 := eq_true p11
         replace q11 := eq_true q11
         go_wp2_with (first | ((with_reducible refine gate_callee (f := 96) rfl ?_); refine goesL_ (some 26) rfl rfl Try.func96 (by kernel_rfl) rfl #[.int .u8 (bt a0 x3_2)] rfl gZ ?_; (with_reducible refine (spec_l01Small.calls (bt a0 x3_2) true _ A12.out).mono ?_); rintro e w' ⟨rfl, ⟨nd, rfl⟩⟩; refine ⟨_, rfl, ?_⟩))
         go_roundg k2
         case measure => have := HJ1.out; have := HK2.out; omega
         case rel => exact ⟨(wrap64 (x3_2 + 1)), sZ, H', ⟨by have := HJ1.out; have := HK2.out; omega⟩, dZ⟩
        ·replace c13 := Bool.eq_false_iff.mpr c13
         subst c13
         have H1 : ((spec_l01Digit.f (bt a0 x3_2)).bind fun t340 => (if t340 = true then (spec_l01Name.l0 k2 a0 (wrap64 (x3_2 + 1))) else (some false))) = some r := by rw [if_neg (show ¬ (false = true) by decide)] at H; exact H
         clear H
         have H := H1
         clear H1
         replace H := Option.bind_eq_some_iff.mp H
         obtain ⟨t340, A150, H⟩ := H
         replace H : (if t340 = true then (spec_l01Name.l0 k2 a0 (wrap64 (x3_2 + 1))) else (some false)) = some r := H
         have A15 := Aside0.mk A150
         clear A150
         by_cases c16 : t340 = true
         ·subst c16
          have H1 : (spec_l01Name.l0 k2 a0 (wrap64 (x3_2 + 1))) = some r := by rw [if_pos rfl] at H; exact H
          clear H
          have H := H1
          clear H1
          have H' := Aside0.mk H
          clear H
          have p11 : 0 ≤ (x3_2 : Int) := oZ
          have q11 : x3_2 < (a0.size : Int) := oZ
          have hx11 := bt_at a0 x3_2
          replace p11 := eq_true p11
          replace q11 := eq_true q11
          go_wp2_with (first | ((with_reducible refine gate_callee (f := 96) rfl ?_); refine goesL_ (some 26) rfl rfl Try.func96 (by kernel_rfl) rfl #[.int .u8 (bt a0 x3_2)] rfl gZ ?_; (with_reducible refine (spec_l01Small.calls (bt a0 x3_2) false _ A12.out).mono ?_); rintro e w' ⟨rfl, ⟨nd, rfl⟩⟩; refine ⟨_, rfl, ?_⟩; have p14 : 0 ≤ (x3_2 : Int) := oZ; have q14 : x3_2 < (a0.size : Int) := oZ; have hx14 := bt_at a0 x3_2; replace p14 := eq_true p14; replace q14 := eq_true q14) | (go_at_call 97; (with_reducible refine (spec_l01Digit.calls (bt a0 x3_2) true _ A15.out).mono ?_); rintro e w' ⟨rfl, ⟨nd, rfl⟩⟩))
          go_roundg k2
          case measure => have := HJ1.out; have := HK2.out; omega
          case rel => exact ⟨(wrap64 (x3_2 + 1)), sZ, H', ⟨by have := HJ1.out; have := HK2.out; omega⟩, dZ⟩
         ·replace c16 := Bool.eq_false_iff.mpr c16
          subst c16
          have H1 : (some false) = some r := by rw [if_neg (show ¬ (false = true) by decide)] at H; exact H
          clear H
          have H := H1
          clear H1
          obtain rfl := Option.some.inj H
          have p11 : 0 ≤ (x3_2 : Int) := oZ
          have q11 : x3_2 < (a0.size : Int) := oZ
          have hx11 := bt_at a0 x3_2
          replace p11 := eq_true p11
          replace q11 := eq_true q11
          go_wp2_with (first | ((with_reducible refine gate_callee (f := 96) rfl ?_); refine goesL_ (some 26) rfl rfl Try.func96 (by kernel_rfl) rfl #[.int .u8 (bt a0 x3_2)] rfl gZ ?_; (with_reducible refine (spec_l01Small.calls (bt a0 x3_2) false _ A12.out).mono ?_); rintro e w' ⟨rfl, ⟨nd, rfl⟩⟩; refine ⟨_, rfl, ?_⟩; have p14 : 0 ≤ (x3_2 : Int) := oZ; have q14 : x3_2 < (a0.size : Int) := oZ; have hx14 := bt_at a0 x3_2; replace p14 := eq_true p14; replace q14 := eq_true q14) | (go_at_call 97; (with_reducible refine (spec_l01Digit.calls (bt a0 x3_2) false _ A15.out).mono ?_); rintro e w' ⟨rfl, ⟨nd, rfl⟩⟩))
          go_ret
          exact ⟨sZ, dZ⟩
       ·rw [if_neg c10] at H
        exact absurd H (by simp)
      ·rw [if_neg c9] at H
       have c9b0 : decide (x3_2 < (a0.size : Int)) = false := decide_eq_false c9
       clear c9
       obtain rfl := Option.some.inj H
       go_wp2
       go_ret
       exact ⟨sZ, dZ⟩
end Go.Proofs.Ytmmlhbfkchbpaaa.XX
end

section
namespace Go.Proofs.Ytmmlhbfkchbpaaa.XX
open Go.RowKit Go.Proofs.YtmmlhbfkchbpaaaW.PrintWords Go.Proofs.YtmmlhbfkchbpaaaW.PrintLast Go.Proofs.YtmmlhbfkchbpaaaW.PrintMore
attribute [local go_sem] run_eql_slice_nil binOp_string_gtr' binOp_string_leq' binOp_string_geq' max2_int min2_int max_two min_two max_three min_three max_four min_four   -- for this text's walks alone
set_option linter.unusedVariables false
set_option linter.unusedSimpArgs false
def spec_l03Ok.j0 : Nat → Bool → ByteArray → Int → Int → Int → Int → Int → Option (Bool)
 | 0, _, _, _, _, _, _, _ => none
 | k + 1, x35, x1000, x1001, x1002, x1003, x1004, x1005 => if x35 = true then (some false) else ((spec_l00In.f x1003 1 10000).bind fun t344 => (if t344 = true then ((spec_l00In.f x1004 20 1000).bind fun t345 => (if t345 = true then ((spec_l00In.f x1005 0 5000).bind fun t346 => (some t346)) else (some false))) else (some false)))
def spec_l03Ok.f (k : Nat) (a0_0 : ByteArray) (a0_1 : Int) (a0_2 : Int) (a0_3 : Int) (a0_4 : Int) (a0_5 : Int) : Option (Bool) := (spec_l01Name.f k a0_0).bind fun t341 => (if t341 = true then ((spec_l00In.f a0_1 0 15).bind fun t342 => (if t342 = true then ((spec_l00In.f a0_2 0 15).bind fun t343 => (if t343 = true then (spec_l03Ok.j0 k (a0_1 == a0_2) a0_0 a0_1 a0_2 a0_3 a0_4 a0_5) else (spec_l03Ok.j0 k true a0_0 a0_1 a0_2 a0_3 a0_4 a0_5))) else (spec_l03Ok.j0 k true a0_0 a0_1 a0_2 a0_3 a0_4 a0_5))) else (spec_l03Ok.j0 k true a0_0 a0_1 a0_2 a0_3 a0_4 a0_5))
set_option maxHeartbeats 8000000 in
set_option maxRecDepth 100000 in
theorem spec_l03Ok.calls (k : Nat) (v0 : Addr) (a0_0 : ByteArray) (a0_1 : Int) (a0_2 : Int) (a0_3 : Int) (a0_4 : Int) (a0_5 : Int) (r : Bool) (w : World) (hv0 : ViewAt w v0 [.string a0_0, .int .i64 a0_1, .int .i64 a0_2, .int .i64 a0_3, .int .i64 a0_4, .int .i64 a0_5]) (h : spec_l03Ok.f k a0_0 a0_1 a0_2 a0_3 a0_4 a0_5 = some r) :
  Calls Try.prog 66 #[.pointer (some v0)] w fun e w' => e = .returned (.bool r) ∧ Drawn0 w w' := by
 have HV0 := Aside0.mk hv0
 have hvw0_0 : w.cell? v0 = some (.string a0_0) := hv0.at0
 have hvw0_1 : w.cell? ⟨v0.block, v0.off + 1, none⟩ = some (.int .i64 a0_1) := hv0.at_ 1 (by decide) rfl
 have hvw0_2 : w.cell? ⟨v0.block, v0.off + 2, none⟩ = some (.int .i64 a0_2) := hv0.at_ 2 (by decide) rfl
 have hvw0_3 : w.cell? ⟨v0.block, v0.off + 3, none⟩ = some (.int .i64 a0_3) := hv0.at_ 3 (by decide) rfl
 have hvw0_4 : w.cell? ⟨v0.block, v0.off + 4, none⟩ = some (.int .i64 a0_4) := hv0.at_ 4 (by decide) rfl
 have hvw0_5 : w.cell? ⟨v0.block, v0.off + 5, none⟩ = some (.int .i64 a0_5) := hv0.at_ 5 (by decide) rfl
 clear hv0
 have H : ((spec_l01Name.f k a0_0).bind fun t341 => (if t341 = true then ((spec_l00In.f a0_1 0 15).bind fun t342 => (if t342 = true then ((spec_l00In.f a0_2 0 15).bind fun t343 => (if t343 = true then (spec_l03Ok.j0 k (a0_1 == a0_2) a0_0 a0_1 a0_2 a0_3 a0_4 a0_5) else (spec_l03Ok.j0 k true a0_0 a0_1 a0_2 a0_3 a0_4 a0_5))) else (spec_l03Ok.j0 k true a0_0 a0_1 a0_2 a0_3 a0_4 a0_5))) else (spec_l03Ok.j0 k true a0_0 a0_1 a0_2 a0_3 a0_4 a0_5))) = some r := h
 clear h
 have HC2 := Aside0.mk H
 clear H
 go_enter Try.func66, Try.ntmps66
 go_upto_region 1 with (fail)
 repeat (go_quiet (fail); go_upto_region 1 with (fail))
 go_cut [35] (fun v35 wc => ∃ (kq : Nat) (x35_1 : Bool), v35 = .bool x35_1 ∧ Aside0 (spec_l03Ok.j0 kq x35_1 a0_0 a0_1 a0_2 a0_3 a0_4 a0_5 = some r) ∧ Aside0 (kq ≤ k) ∧ Drawn0 w wc)
 case first =>
  have H := HC2.out
  clear HC2
  replace H := Option.bind_eq_some_iff.mp H
  obtain ⟨t341, A30, H⟩ := H
  replace H : (if t341 = true then ((spec_l00In.f a0_1 0 15).bind fun t342 => (if t342 = true then ((spec_l00In.f a0_2 0 15).bind fun t343 => (if t343 = true then (spec_l03Ok.j0 k (a0_1 == a0_2) a0_0 a0_1 a0_2 a0_3 a0_4 a0_5) else (spec_l03Ok.j0 k true a0_0 a0_1 a0_2 a0_3 a0_4 a0_5))) else (spec_l03Ok.j0 k true a0_0 a0_1 a0_2 a0_3 a0_4 a0_5))) else (spec_l03Ok.j0 k true a0_0 a0_1 a0_2 a0_3 a0_4 a0_5)) = some r := H
  have A3 := Aside0.mk A30
  clear A30
  by_cases c4 : t341 = true
  ·subst c4
   have H1 : ((spec_l00In.f a0_1 0 15).bind fun t342 => (if t342 = true then ((spec_l00In.f a0_2 0 15).bind fun t343 => (if t343 = true then (spec_l03Ok.j0 k (a0_1 == a0_2) a0_0 a0_1 a0_2 a0_3 a0_4 a0_5) else (spec_l03Ok.j0 k true a0_0 a0_1 a0_2 a0_3 a0_4 a0_5))) else (spec_l03Ok.j0 k true a0_0 a0_1 a0_2 a0_3 a0_4 a0_5))) = some r := by rw [if_pos rfl] at H; exact H
   clear H
   have H := H1
   clear H1
   replace H := Option.bind_eq_some_iff.mp H
   obtain ⟨t342, A50, H⟩ := H
   replace H : (if t342 = true then ((spec_l00In.f a0_2 0 15).bind fun t343 => (if t343 = true then (spec_l03Ok.j0 k (a0_1 == a0_2) a0_0 a0_1 a0_2 a0_3 a0_4 a0_5) else (spec_l03Ok.j0 k true a0_0 a0_1 a0_2 a0_3 a0_4 a0_5))) else (spec_l03Ok.j0 k true a0_0 a0_1 a0_2 a0_3 a0_4 a0_5)) = some r := H
   have A5 := Aside0.mk A50
   clear A50
   by_cases c6 : t342 = true
   ·subst c6
    have H1 : ((spec_l00In.f a0_2 0 15).bind fun t343 => (if t343 = true then (spec_l03Ok.j0 k (a0_1 == a0_2) a0_0 a0_1 a0_2 a0_3 a0_4 a0_5) else (spec_l03Ok.j0 k true a0_0 a0_1 a0_2 a0_3 a0_4 a0_5))) = some r := by rw [if_pos rfl] at H; exact H
    clear H
    have H := H1
    clear H1
    replace H := Option.bind_eq_some_iff.mp H
    obtain ⟨t343, A70, H⟩ := H
    replace H : (if t343 = true then (spec_l03Ok.j0 k (a0_1 == a0_2) a0_0 a0_1 a0_2 a0_3 a0_4 a0_5) else (spec_l03Ok.j0 k true a0_0 a0_1 a0_2 a0_3 a0_4 a0_5)) = some r := H
    have A7 := Aside0.mk A70
    clear A70
    by_cases c8 : t343 = true
    ·subst c8
     have H1 : (spec_l03Ok.j0 k (a0_1 == a0_2) a0_0 a0_1 a0_2 a0_3 a0_4 a0_5) = some r := by rw [if_pos rfl] at H; exact H
     clear H
     have H := H1
     clear H1
     have H' := Aside0.mk H
     clear H
     go_wp2_with (first | (go_at_call 89; (with_reducible refine (spec_l01Name.calls k a0_0 true _ A3.out).mono ?_); rintro e w' ⟨rfl, ⟨nd, rfl⟩⟩; (try first | exact ⟨rfl, _, World.drewN_drewN _ _ _⟩ | exact ⟨rfl, _, Eq.trans (World.drewN_drewN _ _ _) (congrArg (World.drewN _) (Nat.add_assoc _ _ _))⟩)) | (go_at_call 60; (with_reducible refine (spec_l00In.calls a0_1 0 15 true _ A5.out).mono ?_); rintro e w' ⟨rfl, ⟨nd, rfl⟩⟩; (try first | exact ⟨rfl, _, World.drewN_drewN _ _ _⟩ | exact ⟨rfl, _, Eq.trans (World.drewN_drewN _ _ _) (congrArg (World.drewN _) (Nat.add_assoc _ _ _))⟩)) | (go_at_call 60; (with_reducible refine (spec_l00In.calls a0_2 0 15 true _ A7.out).mono ?_); rintro e w' ⟨rfl, ⟨nd, rfl⟩⟩; (try first | exact ⟨rfl, _, World.drewN_drewN _ _ _⟩ | exact ⟨rfl, _, Eq.trans (World.drewN_drewN _ _ _) (congrArg (World.drewN _) (Nat.add_assoc _ _ _))⟩)))
     repeat (go_quiet (first | (go_at_call 89; (with_reducible refine (spec_l01Name.calls k a0_0 true _ A3.out).mono ?_); rintro e w' ⟨rfl, ⟨nd, rfl⟩⟩; (try first | exact ⟨rfl, _, World.drewN_drewN _ _ _⟩ | exact ⟨rfl, _, Eq.trans (World.drewN_drewN _ _ _) (congrArg (World.drewN _) (Nat.add_assoc _ _ _))⟩)) | (go_at_call 60; (with_reducible refine (spec_l00In.calls a0_1 0 15 true _ A5.out).mono ?_); rintro e w' ⟨rfl, ⟨nd, rfl⟩⟩; (try first | exact ⟨rfl, _, World.drewN_drewN _ _ _⟩ | exact ⟨rfl, _, Eq.trans (World.drewN_drewN _ _ _) (congrArg (World.drewN _) (Nat.add_assoc _ _ _))⟩)) | (go_at_call 60; (with_reducible refine (spec_l00In.calls a0_2 0 15 true _ A7.out).mono ?_); rintro e w' ⟨rfl, ⟨nd, rfl⟩⟩; (try first | exact ⟨rfl, _, World.drewN_drewN _ _ _⟩ | exact ⟨rfl, _, Eq.trans (World.drewN_drewN _ _ _) (congrArg (World.drewN _) (Nat.add_assoc _ _ _))⟩))); try go_wp2_with (first | (go_at_call 89; (with_reducible refine (spec_l01Name.calls k a0_0 true _ A3.out).mono ?_); rintro e w' ⟨rfl, ⟨nd, rfl⟩⟩; (try first | exact ⟨rfl, _, World.drewN_drewN _ _ _⟩ | exact ⟨rfl, _, Eq.trans (World.drewN_drewN _ _ _) (congrArg (World.drewN _) (Nat.add_assoc _ _ _))⟩)) | (go_at_call 60; (with_reducible refine (spec_l00In.calls a0_1 0 15 true _ A5.out).mono ?_); rintro e w' ⟨rfl, ⟨nd, rfl⟩⟩; (try first | exact ⟨rfl, _, World.drewN_drewN _ _ _⟩ | exact ⟨rfl, _, Eq.trans (World.drewN_drewN _ _ _) (congrArg (World.drewN _) (Nat.add_assoc _ _ _))⟩)) | (go_at_call 60; (with_reducible refine (spec_l00In.calls a0_2 0 15 true _ A7.out).mono ?_); rintro e w' ⟨rfl, ⟨nd, rfl⟩⟩; (try first | exact ⟨rfl, _, World.drewN_drewN _ _ _⟩ | exact ⟨rfl, _, Eq.trans (World.drewN_drewN _ _ _) (congrArg (World.drewN _) (Nat.add_assoc _ _ _))⟩))))
     go_meet
     case rel => exact ⟨_, ((a0_1 == a0_2)), sZ, H', ⟨by first | omega | exact Nat.le_refl _⟩, dZ⟩
    ·replace c8 := Bool.eq_false_iff.mpr c8
     subst c8
     have H1 : (spec_l03Ok.j0 k true a0_0 a0_1 a0_2 a0_3 a0_4 a0_5) = some r := by rw [if_neg (show ¬ (false = true) by decide)] at H; exact H
     clear H
     have H := H1
     clear H1
     have H' := Aside0.mk H
     clear H
     go_wp2_with (first | (go_at_call 89; (with_reducible refine (spec_l01Name.calls k a0_0 true _ A3.out).mono ?_); rintro e w' ⟨rfl, ⟨nd, rfl⟩⟩; (try first | exact ⟨rfl, _, World.drewN_drewN _ _ _⟩ | exact ⟨rfl, _, Eq.trans (World.drewN_drewN _ _ _) (congrArg (World.drewN _) (Nat.add_assoc _ _ _))⟩)) | (go_at_call 60; (with_reducible refine (spec_l00In.calls a0_1 0 15 true _ A5.out).mono ?_); rintro e w' ⟨rfl, ⟨nd, rfl⟩⟩; (try first | exact ⟨rfl, _, World.drewN_drewN _ _ _⟩ | exact ⟨rfl, _, Eq.trans (World.drewN_drewN _ _ _) (congrArg (World.drewN _) (Nat.add_assoc _ _ _))⟩)) | (go_at_call 60; (with_reducible refine (spec_l00In.calls a0_2 0 15 false _ A7.out).mono ?_); rintro e w' ⟨rfl, ⟨nd, rfl⟩⟩; (try first | exact ⟨rfl, _, World.drewN_drewN _ _ _⟩ | exact ⟨rfl, _, Eq.trans (World.drewN_drewN _ _ _) (congrArg (World.drewN _) (Nat.add_assoc _ _ _))⟩)))
     repeat (go_quiet (first | (go_at_call 89; (with_reducible refine (spec_l01Name.calls k a0_0 true _ A3.out).mono ?_); rintro e w' ⟨rfl, ⟨nd, rfl⟩⟩; (try first | exact ⟨rfl, _, World.drewN_drewN _ _ _⟩ | exact ⟨rfl, _, Eq.trans (World.drewN_drewN _ _ _) (congrArg (World.drewN _) (Nat.add_assoc _ _ _))⟩)) | (go_at_call 60; (with_reducible refine (spec_l00In.calls a0_1 0 15 true _ A5.out).mono ?_); rintro e w' ⟨rfl, ⟨nd, rfl⟩⟩; (try first | exact ⟨rfl, _, World.drewN_drewN _ _ _⟩ | exact ⟨rfl, _, Eq.trans (World.drewN_drewN _ _ _) (congrArg (World.drewN _) (Nat.add_assoc _ _ _))⟩)) | (go_at_call 60; (with_reducible refine (spec_l00In.calls a0_2 0 15 false _ A7.out).mono ?_); rintro e w' ⟨rfl, ⟨nd, rfl⟩⟩; (try first | exact ⟨rfl, _, World.drewN_drewN _ _ _⟩ | exact ⟨rfl, _, Eq.trans (World.drewN_drewN _ _ _) (congrArg (World.drewN _) (Nat.add_assoc _ _ _))⟩))); try go_wp2_with (first | (go_at_call 89; (with_reducible refine (spec_l01Name.calls k a0_0 true _ A3.out).mono ?_); rintro e w' ⟨rfl, ⟨nd, rfl⟩⟩; (try first | exact ⟨rfl, _, World.drewN_drewN _ _ _⟩ | exact ⟨rfl, _, Eq.trans (World.drewN_drewN _ _ _) (congrArg (World.drewN _) (Nat.add_assoc _ _ _))⟩)) | (go_at_call 60; (with_reducible refine (spec_l00In.calls a0_1 0 15 true _ A5.out).mono ?_); rintro e w' ⟨rfl, ⟨nd, rfl⟩⟩; (try first | exact ⟨rfl, _, World.drewN_drewN _ _ _⟩ | exact ⟨rfl, _, Eq.trans (World.drewN_drewN _ _ _) (congrArg (World.drewN _) (Nat.add_assoc _ _ _))⟩)) | (go_at_call 60; (with_reducible refine (spec_l00In.calls a0_2 0 15 false _ A7.out).mono ?_); rintro e w' ⟨rfl, ⟨nd, rfl⟩⟩; (try first | exact ⟨rfl, _, World.drewN_drewN _ _ _⟩ | exact ⟨rfl, _, Eq.trans (World.drewN_drewN _ _ _) (congrArg (World.drewN _) (Nat.add_assoc _ _ _))⟩))))
     go_meet
     case rel => exact ⟨_, (true), sZ, H', ⟨by first | omega | exact Nat.le_refl _⟩, dZ⟩
   ·replace c6 := Bool.eq_false_iff.mpr c6
    subst c6
    have H1 : (spec_l03Ok.j0 k true a0_0 a0_1 a0_2 a0_3 a0_4 a0_5) = some r := by rw [if_neg (show ¬ (false = true) by decide)] at H; exact H
    clear H
    have H := H1
    clear H1
    have H' := Aside0.mk H
    clear H
    go_wp2_with (first | (go_at_call 89; (with_reducible refine (spec_l01Name.calls k a0_0 true _ A3.out).mono ?_); rintro e w' ⟨rfl, ⟨nd, rfl⟩⟩; (try first | exact ⟨rfl, _, World.drewN_drewN _ _ _⟩ | exact ⟨rfl, _, Eq.trans (World.drewN_drewN _ _ _) (congrArg (World.drewN _) (Nat.add_assoc _ _ _))⟩)) | (go_at_call 60; (with_reducible refine (spec_l00In.calls a0_1 0 15 false _ A5.out).mono ?_); rintro e w' ⟨rfl, ⟨nd, rfl⟩⟩; (try first | exact ⟨rfl, _, World.drewN_drewN _ _ _⟩ | exact ⟨rfl, _, Eq.trans (World.drewN_drewN _ _ _) (congrArg (World.drewN _) (Nat.add_assoc _ _ _))⟩)))
    repeat (go_quiet (first | (go_at_call 89; (with_reducible refine (spec_l01Name.calls k a0_0 true _ A3.out).mono ?_); rintro e w' ⟨rfl, ⟨nd, rfl⟩⟩; (try first | exact ⟨rfl, _, World.drewN_drewN _ _ _⟩ | exact ⟨rfl, _, Eq.trans (World.drewN_drewN _ _ _) (congrArg (World.drewN _) (Nat.add_assoc _ _ _))⟩)) | (go_at_call 60; (with_reducible refine (spec_l00In.calls a0_1 0 15 false _ A5.out).mono ?_); rintro e w' ⟨rfl, ⟨nd, rfl⟩⟩; (try first | exact ⟨rfl, _, World.drewN_drewN _ _ _⟩ | exact ⟨rfl, _, Eq.trans (World.drewN_drewN _ _ _) (congrArg (World.drewN _) (Nat.add_assoc _ _ _))⟩))); try go_wp2_with (first | (go_at_call 89; (with_reducible refine (spec_l01Name.calls k a0_0 true _ A3.out).mono ?_); rintro e w' ⟨rfl, ⟨nd, rfl⟩⟩; (try first | exact ⟨rfl, _, World.drewN_drewN _ _ _⟩ | exact ⟨rfl, _, Eq.trans (World.drewN_drewN _ _ _) (congrArg (World.drewN _) (Nat.add_assoc _ _ _))⟩)) | (go_at_call 60; (with_reducible refine (spec_l00In.calls a0_1 0 15 false _ A5.out).mono ?_); rintro e w' ⟨rfl, ⟨nd, rfl⟩⟩; (try first | exact ⟨rfl, _, World.drewN_drewN _ _ _⟩ | exact ⟨rfl, _, Eq.trans (World.drewN_drewN _ _ _) (congrArg (World.drewN _) (Nat.add_assoc _ _ _))⟩))))
    go_meet
    case rel => exact ⟨_, (true), sZ, H', ⟨by first | omega | exact Nat.le_refl _⟩, dZ⟩
  ·replace c4 := Bool.eq_false_iff.mpr c4
   subst c4
   have H1 : (spec_l03Ok.j0 k true a0_0 a0_1 a0_2 a0_3 a0_4 a0_5) = some r := by rw [if_neg (show ¬ (false = true) by decide)] at H; exact H
   clear H
   have H := H1
   clear H1
   have H' := Aside0.mk H
   clear H
   go_wp2_with (first | (go_at_call 89; (with_reducible refine (spec_l01Name.calls k a0_0 false _ A3.out).mono ?_); rintro e w' ⟨rfl, ⟨nd, rfl⟩⟩; (try first | exact ⟨rfl, _, World.drewN_drewN _ _ _⟩ | exact ⟨rfl, _, Eq.trans (World.drewN_drewN _ _ _) (congrArg (World.drewN _) (Nat.add_assoc _ _ _))⟩)))
   repeat (go_quiet (first | (go_at_call 89; (with_reducible refine (spec_l01Name.calls k a0_0 false _ A3.out).mono ?_); rintro e w' ⟨rfl, ⟨nd, rfl⟩⟩; (try first | exact ⟨rfl, _, World.drewN_drewN _ _ _⟩ | exact ⟨rfl, _, Eq.trans (World.drewN_drewN _ _ _) (congrArg (World.drewN _) (Nat.add_assoc _ _ _))⟩))); try go_wp2_with (first | (go_at_call 89; (with_reducible refine (spec_l01Name.calls k a0_0 false _ A3.out).mono ?_); rintro e w' ⟨rfl, ⟨nd, rfl⟩⟩; (try first | exact ⟨rfl, _, World.drewN_drewN _ _ _⟩ | exact ⟨rfl, _, Eq.trans (World.drewN_drewN _ _ _) (congrArg (World.drewN _) (Nat.add_assoc _ _ _))⟩))))
   go_meet
   case rel => exact ⟨_, (true), sZ, H', ⟨by first | omega | exact Nat.le_refl _⟩, dZ⟩
 case rest =>
  clear HC2; (try clear p2); (try clear c4); (try clear c6); (try clear c8)
  obtain ⟨kq, x35_1, rfl, HA, HJ1, ⟨mc1, rfl⟩⟩ := hcut
  cases kq with
  | zero => exact absurd HA.out (by simp [spec_l03Ok.j0])
  | succ kj1 =>
   have H := HA.out
   clear HA
   simp only [spec_l03Ok.j0] at H
   by_cases c9 : x35_1 = true
   ·subst c9
    have H1 : (some false) = some r := by rw [if_pos rfl] at H; exact H
    clear H
    have H := H1
    clear H1
    obtain rfl := Option.some.inj H
    go_wp2
    repeat (go_quiet (fail); try go_wp2)
    go_ret
    exact ⟨sZ, dZ⟩
   ·replace c9 := Bool.eq_false_iff.mpr c9
    subst c9
    have H1 : ((spec_l00In.f a0_3 1 10000).bind fun t344 => (if t344 = true then ((spec_l00In.f a0_4 20 1000).bind fun t345 => (if t345 = true then ((spec_l00In.f a0_5 0 5000).bind fun t346 => (some t346)) else (some false))) else (some false))) = some r := by rw [if_neg (show ¬ (false = true) by decide)] at H; exact H
    clear H
    have H := H1
    clear H1
    replace H := Option.bind_eq_some_iff.mp H
    obtain ⟨t344, A100, H⟩ := H
    replace H : (if t344 = true then ((spec_l00In.f a0_4 20 1000).bind fun t345 => (if t345 = true then ((spec_l00In.f a0_5 0 5000).bind fun t346 => (some t346)) else (some false))) else (some false)) = some r := H
    have A10 := Aside0.mk A100
    clear A100
    by_cases c11 : t344 = true
    ·subst c11
     have H1 : ((spec_l00In.f a0_4 20 1000).bind fun t345 => (if t345 = true then ((spec_l00In.f a0_5 0 5000).bind fun t346 => (some t346)) else (some false))) = some r := by rw [if_pos rfl] at H; exact H
     clear H
     have H := H1
     clear H1
     replace H := Option.bind_eq_some_iff.mp H
     obtain ⟨t345, A120, H⟩ := H
     replace H : (if t345 = true then ((spec_l00In.f a0_5 0 5000).bind fun t346 => (some t346)) else (some false)) = some r := H
     have A12 := Aside0.mk A120
     clear A120
     by_cases c13 : t345 = true
     ·subst c13
      have H1 : ((spec_l00In.f a0_5 0 5000).bind fun t346 => (some t346)) = some r := by rw [if_pos rfl] at H; exact H
      clear H
      have H := H1
      clear H1
      replace H := Option.bind_eq_some_iff.mp H
      obtain ⟨t346, A140, H⟩ := H
      replace H : (some t346) = some r := H
      have A14 := Aside0.mk A140
      clear A140
      obtain rfl := Option.some.inj H
      go_wp2_with (first | (go_at_call 60; (with_reducible refine (spec_l00In.calls a0_3 1 10000 true _ A10.out).mono ?_); rintro e w' ⟨rfl, ⟨nd, rfl⟩⟩; (try first | exact ⟨rfl, _, World.drewN_drewN _ _ _⟩ | exact ⟨rfl, _, Eq.trans (World.drewN_drewN _ _ _) (congrArg (World.drewN _) (Nat.add_assoc _ _ _))⟩)) | (go_at_call 60; (with_reducible refine (spec_l00In.calls a0_4 20 1000 true _ A12.out).mono ?_); rintro e w' ⟨rfl, ⟨nd, rfl⟩⟩; (try first | exact ⟨rfl, _, World.drewN_drewN _ _ _⟩ | exact ⟨rfl, _, Eq.trans (World.drewN_drewN _ _ _) (congrArg (World.drewN _) (Nat.add_assoc _ _ _))⟩)) | (go_at_call 60; (with_reducible refine (spec_l00In.calls a0_5 0 5000 t346 _ A14.out).mono ?_); rintro e w' ⟨rfl, ⟨nd, rfl⟩⟩; (try first | exact ⟨rfl, _, World.drewN_drewN _ _ _⟩ | exact ⟨rfl, _, Eq.trans (World.drewN_drewN _ _ _) (congrArg (World.drewN _) (Nat.add_assoc _ _ _))⟩)))
      repeat (go_quiet (first | (go_at_call 60; (with_reducible refine (spec_l00In.calls a0_3 1 10000 true _ A10.out).mono ?_); rintro e w' ⟨rfl, ⟨nd, rfl⟩⟩; (try first | exact ⟨rfl, _, World.drewN_drewN _ _ _⟩ | exact ⟨rfl, _, Eq.trans (World.drewN_drewN _ _ _) (congrArg (World.drewN _) (Nat.add_assoc _ _ _))⟩)) | (go_at_call 60; (with_reducible refine (spec_l00In.calls a0_4 20 1000 true _ A12.out).mono ?_); rintro e w' ⟨rfl, ⟨nd, rfl⟩⟩; (try first | exact ⟨rfl, _, World.drewN_drewN _ _ _⟩ | exact ⟨rfl, _, Eq.trans (World.drewN_drewN _ _ _) (congrArg (World.drewN _) (Nat.add_assoc _ _ _))⟩)) | (go_at_call 60; (with_reducible refine (spec_l00In.calls a0_5 0 5000 t346 _ A14.out).mono ?_); rintro e w' ⟨rfl, ⟨nd, rfl⟩⟩; (try first | exact ⟨rfl, _, World.drewN_drewN _ _ _⟩ | exact ⟨rfl, _, Eq.trans (World.drewN_drewN _ _ _) (congrArg (World.drewN _) (Nat.add_assoc _ _ _))⟩))); try go_wp2_with (first | (go_at_call 60; (with_reducible refine (spec_l00In.calls a0_3 1 10000 true _ A10.out).mono ?_); rintro e w' ⟨rfl, ⟨nd, rfl⟩⟩; (try first | exact ⟨rfl, _, World.drewN_drewN _ _ _⟩ | exact ⟨rfl, _, Eq.trans (World.drewN_drewN _ _ _) (congrArg (World.drewN _) (Nat.add_assoc _ _ _))⟩)) | (go_at_call 60; (with_reducible refine (spec_l00In.calls a0_4 20 1000 true _ A12.out).mono ?_); rintro e w' ⟨rfl, ⟨nd, rfl⟩⟩; (try first | exact ⟨rfl, _, World.drewN_drewN _ _ _⟩ | exact ⟨rfl, _, Eq.trans (World.drewN_drewN _ _ _) (congrArg (World.drewN _) (Nat.add_assoc _ _ _))⟩)) | (go_at_call 60; (with_reducible refine (spec_l00In.calls a0_5 0 5000 t346 _ A14.out).mono ?_); rintro e w' ⟨rfl, ⟨nd, rfl⟩⟩; (try first | exact ⟨rfl, _, World.drewN_drewN _ _ _⟩ | exact ⟨rfl, _, Eq.trans (World.drewN_drewN _ _ _) (congrArg (World.drewN _) (Nat.add_assoc _ _ _))⟩))))
      go_ret
      exact ⟨sZ, dZ⟩
     ·replace c13 := Bool.eq_false_iff.mpr c13
      subst c13
      have H1 : (some false) = some r := by rw [if_neg (show ¬ (false = true) by decide)] at H; exact H
      clear H
      have H := H1
      clear H1
      obtain rfl := Option.some.inj H
      go_wp2_with (first | (go_at_call 60; (with_reducible refine (spec_l00In.calls a0_3 1 10000 true _ A10.out).mono ?_); rintro e w' ⟨rfl, ⟨nd, rfl⟩⟩; (try first | exact ⟨rfl, _, World.drewN_drewN _ _ _⟩ | exact ⟨rfl, _, Eq.trans (World.drewN_drewN _ _ _) (congrArg (World.drewN _) (Nat.add_assoc _ _ _))⟩)) | (go_at_call 60; (with_reducible refine (spec_l00In.calls a0_4 20 1000 false _ A12.out).mono ?_); rintro e w' ⟨rfl, ⟨nd, rfl⟩⟩; (try first | exact ⟨rfl, _, World.drewN_drewN _ _ _⟩ | exact ⟨rfl, _, Eq.trans (World.drewN_drewN _ _ _) (congrArg (World.drewN _) (Nat.add_assoc _ _ _))⟩)))
      repeat (go_quiet (first | (go_at_call 60; (with_reducible refine (spec_l00In.calls a0_3 1 10000 true _ A10.out).mono ?_); rintro e w' ⟨rfl, ⟨nd, rfl⟩⟩; (try first | exact ⟨rfl, _, World.drewN_drewN _ _ _⟩ | exact ⟨rfl, _, Eq.trans (World.drewN_drewN _ _ _) (congrArg (World.drewN _) (Nat.add_assoc _ _ _))⟩)) | (go_at_call 60; (with_reducible refine (spec_l00In.calls a0_4 20 1000 false _ A12.out).mono ?_); rintro e w' ⟨rfl, ⟨nd, rfl⟩⟩; (try first | exact ⟨rfl, _, World.drewN_drewN _ _ _⟩ | exact ⟨rfl, _, Eq.trans (World.drewN_drewN _ _ _) (congrArg (World.drewN _) (Nat.add_assoc _ _ _))⟩))); try go_wp2_with (first | (go_at_call 60; (with_reducible refine (spec_l00In.calls a0_3 1 10000 true _ A10.out).mono ?_); rintro e w' ⟨rfl, ⟨nd, rfl⟩⟩; (try first | exact ⟨rfl, _, World.drewN_drewN _ _ _⟩ | exact ⟨rfl, _, Eq.trans (World.drewN_drewN _ _ _) (congrArg (World.drewN _) (Nat.add_assoc _ _ _))⟩)) | (go_at_call 60; (with_reducible refine (spec_l00In.calls a0_4 20 1000 false _ A12.out).mono ?_); rintro e w' ⟨rfl, ⟨nd, rfl⟩⟩; (try first | exact ⟨rfl, _, World.drewN_drewN _ _ _⟩ | exact ⟨rfl, _, Eq.trans (World.drewN_drewN _ _ _) (congrArg (World.drewN _) (Nat.add_assoc _ _ _))⟩))))
      go_ret
      exact ⟨sZ, dZ⟩
    ·replace c11 := Bool.eq_false_iff.mpr c11
     subst c11
     have H1 : (some false) = some r := by rw [if_neg (show ¬ (false = true) by decide)] at H; exact H
     clear H
     have H := H1
     clear H1
     obtain rfl := Option.some.inj H
     go_wp2_with (first | (go_at_call 60; (with_reducible refine (spec_l00In.calls a0_3 1 10000 false _ A10.out).mono ?_); rintro e w' ⟨rfl, ⟨nd, rfl⟩⟩; (try first | exact ⟨rfl, _, World.drewN_drewN _ _ _⟩ | exact ⟨rfl, _, Eq.trans (World.drewN_drewN _ _ _) (congrArg (World.drewN _) (Nat.add_assoc _ _ _))⟩)))
     repeat (go_quiet (first | (go_at_call 60; (with_reducible refine (spec_l00In.calls a0_3 1 10000 false _ A10.out).mono ?_); rintro e w' ⟨rfl, ⟨nd, rfl⟩⟩; (try first | exact ⟨rfl, _, World.drewN_drewN _ _ _⟩ | exact ⟨rfl, _, Eq.trans (World.drewN_drewN _ _ _) (congrArg (World.drewN _) (Nat.add_assoc _ _ _))⟩))); try go_wp2_with (first | (go_at_call 60; (with_reducible refine (spec_l00In.calls a0_3 1 10000 false _ A10.out).mono ?_); rintro e w' ⟨rfl, ⟨nd, rfl⟩⟩; (try first | exact ⟨rfl, _, World.drewN_drewN _ _ _⟩ | exact ⟨rfl, _, Eq.trans (World.drewN_drewN _ _ _) (congrArg (World.drewN _) (Nat.add_assoc _ _ _))⟩))))
     go_ret
     exact ⟨sZ, dZ⟩
def spec_l03Flow.f (a0 : Int) : Option (Bool) := (spec_l00In.f a0 (-100000) 100000).bind fun t347 => (some t347)
set_option maxHeartbeats 8000000 in
set_option maxRecDepth 100000 in
theorem spec_l03Flow.calls (a0 : Int) (r : Bool) (w : World) (h : spec_l03Flow.f a0 = some r) :
  Calls Try.prog 67 #[.int .i64 a0] w fun e w' => e = .returned (.bool r) ∧ Drawn0 w w' := by
 have H : ((spec_l00In.f a0 (-100000) 100000).bind fun t347 => (some t347)) = some r := h
 clear h
 replace H := Option.bind_eq_some_iff.mp H
 obtain ⟨t347, A20, H⟩ := H
 replace H : (some t347) = some r := H
 have A2 := Aside0.mk A20
 clear A20
 obtain rfl := Option.some.inj H
 go_enter Try.func67, Try.ntmps67
 go_wp2_with (first | ((with_reducible refine gate_callee (f := 60) rfl ?_); refine goesL_ (some 4) rfl rfl Try.func60 (by kernel_rfl) rfl #[.int .i64 a0, .int .i64 (-100000), .int .i64 100000] rfl gZ ?_; (with_reducible refine (spec_l00In.calls a0 (-100000) 100000 t347 _ A2.out).mono ?_); rintro e w' ⟨rfl, ⟨nd, rfl⟩⟩; refine ⟨_, rfl, ?_⟩))
 go_ret
 exact ⟨sZ, dZ⟩
end Go.Proofs.Ytmmlhbfkchbpaaa.XX
end

section
namespace Go.Proofs.Ytmmlhbfkchbpaaa.XX
open Go.RowKit Go.Proofs.YtmmlhbfkchbpaaaW.PrintWords Go.Proofs.YtmmlhbfkchbpaaaW.PrintLast Go.Proofs.YtmmlhbfkchbpaaaW.PrintMore
attribute [local go_sem] run_eql_slice_nil binOp_string_gtr' binOp_string_leq' binOp_string_geq' max2_int min2_int max_two min_two max_three min_three max_four min_four   -- for this text's walks alone
set_option linter.unusedVariables false
set_option linter.unusedSimpArgs false
def spec_l03Ask.f (k : Nat) (a0_0 : ByteArray) (a0_1 : Int) (a0_2 : Int) (a0_3 : Int) (a0_4 : Int) (a0_5 : Int) (a1 : Int) : Option (Int) := (spec_l03Ok.f k a0_0 a0_1 a0_2 a0_3 a0_4 a0_5).bind fun t348 => (if t348 = true then ((spec_l03Flow.f a1).bind fun t349 => (if t349 = true then (some 0) else (some 2))) else (some 1))
set_option maxHeartbeats 8000000 in
set_option maxRecDepth 100000 in
theorem spec_l03Ask.calls (k : Nat) (v0 : Addr) (a0_0 : ByteArray) (a0_1 : Int) (a0_2 : Int) (a0_3 : Int) (a0_4 : Int) (a0_5 : Int) (a1 : Int) (r : Int) (w : World) (hv0 : ViewAt w v0 [.string a0_0, .int .i64 a0_1, .int .i64 a0_2, .int .i64 a0_3, .int .i64 a0_4, .int .i64 a0_5]) (h : spec_l03Ask.f k a0_0 a0_1 a0_2 a0_3 a0_4 a0_5 a1 = some r) :
  Calls Try.prog 44 #[.pointer (some v0), .int .i64 a1] w fun e w' => e = .returned (.int .i64 r) ∧ Drawn0 w w' := by
 have HV0 := Aside0.mk hv0
 have hvw0_0 : w.cell? v0 = some (.string a0_0) := hv0.at0
 have hvw0_1 : w.cell? ⟨v0.block, v0.off + 1, none⟩ = some (.int .i64 a0_1) := hv0.at_ 1 (by decide) rfl
 have hvw0_2 : w.cell? ⟨v0.block, v0.off + 2, none⟩ = some (.int .i64 a0_2) := hv0.at_ 2 (by decide) rfl
 have hvw0_3 : w.cell? ⟨v0.block, v0.off + 3, none⟩ = some (.int .i64 a0_3) := hv0.at_ 3 (by decide) rfl
 have hvw0_4 : w.cell? ⟨v0.block, v0.off + 4, none⟩ = some (.int .i64 a0_4) := hv0.at_ 4 (by decide) rfl
 have hvw0_5 : w.cell? ⟨v0.block, v0.off + 5, none⟩ = some (.int .i64 a0_5) := hv0.at_ 5 (by decide) rfl
 clear hv0
 have H : ((spec_l03Ok.f k a0_0 a0_1 a0_2 a0_3 a0_4 a0_5).bind fun t348 => (if t348 = true then ((spec_l03Flow.f a1).bind fun t349 => (if t349 = true then (some 0) else (some 2))) else (some 1))) = some r := h
 clear h
 replace H := Option.bind_eq_some_iff.mp H
 obtain ⟨t348, A30, H⟩ := H
 replace H : (if t348 = true then ((spec_l03Flow.f a1).bind fun t349 => (if t349 = true then (some 0) else (some 2))) else (some 1)) = some r := H
 have A3 := Aside0.mk A30
 clear A30
 by_cases c4 : t348 = true
 ·subst c4
  have H1 : ((spec_l03Flow.f a1).bind fun t349 => (if t349 = true then (some 0) else (some 2))) = some r := by rw [if_pos rfl] at H; exact H
  clear H
  have H := H1
  clear H1
  replace H := Option.bind_eq_some_iff.mp H
  obtain ⟨t349, A50, H⟩ := H
  replace H : (if t349 = true then (some 0) else (some 2)) = some r := H
  have A5 := Aside0.mk A50
  clear A50
  by_cases c6 : t349 = true
  ·subst c6
   have H1 : (some 0) = some r := by rw [if_pos rfl] at H; exact H
   clear H
   have H := H1
   clear H1
   obtain rfl := Option.some.inj H
   go_enter Try.func44, Try.ntmps44
   go_wp2_with (first | ((with_reducible refine gate_callee (f := 66) rfl ?_); refine goesL_ (some 6) rfl rfl Try.func66 (by kernel_rfl) rfl #[.pointer (some v0)] rfl gZ ?_; (with_reducible refine (spec_l03Ok.calls k _ a0_0 a0_1 a0_2 a0_3 a0_4 a0_5 true _ ?side1 A3.out).mono ?_); (case side1 => exact HV0.out); rintro e w' ⟨rfl, ⟨nd, rfl⟩⟩; refine ⟨_, rfl, ?_⟩) | ((with_reducible refine gate_callee (f := 67) rfl ?_); refine goesL_ (some 9) rfl rfl Try.func67 (by kernel_rfl) rfl #[.int .i64 a1] rfl gZ ?_; (with_reducible refine (spec_l03Flow.calls a1 true _ A5.out).mono ?_); rintro e w' ⟨rfl, ⟨nd, rfl⟩⟩; refine ⟨_, rfl, ?_⟩))
   go_ret
   exact ⟨sZ, dZ⟩
  ·replace c6 := Bool.eq_false_iff.mpr c6
   subst c6
   have H1 : (some 2) = some r := by rw [if_neg (show ¬ (false = true) by decide)] at H; exact H
   clear H
   have H := H1
   clear H1
   obtain rfl := Option.some.inj H
   go_enter Try.func44, Try.ntmps44
   go_wp2_with (first | ((with_reducible refine gate_callee (f := 66) rfl ?_); refine goesL_ (some 6) rfl rfl Try.func66 (by kernel_rfl) rfl #[.pointer (some v0)] rfl gZ ?_; (with_reducible refine (spec_l03Ok.calls k _ a0_0 a0_1 a0_2 a0_3 a0_4 a0_5 true _ ?side1 A3.out).mono ?_); (case side1 => exact HV0.out); rintro e w' ⟨rfl, ⟨nd, rfl⟩⟩; refine ⟨_, rfl, ?_⟩) | ((with_reducible refine gate_callee (f := 67) rfl ?_); refine goesL_ (some 9) rfl rfl Try.func67 (by kernel_rfl) rfl #[.int .i64 a1] rfl gZ ?_; (with_reducible refine (spec_l03Flow.calls a1 false _ A5.out).mono ?_); rintro e w' ⟨rfl, ⟨nd, rfl⟩⟩; refine ⟨_, rfl, ?_⟩))
   go_ret
   exact ⟨sZ, dZ⟩
 ·replace c4 := Bool.eq_false_iff.mpr c4
  subst c4
  have H1 : (some 1) = some r := by rw [if_neg (show ¬ (false = true) by decide)] at H; exact H
  clear H
  have H := H1
  clear H1
  obtain rfl := Option.some.inj H
  go_enter Try.func44, Try.ntmps44
  go_wp2_with (first | ((with_reducible refine gate_callee (f := 66) rfl ?_); refine goesL_ (some 6) rfl rfl Try.func66 (by kernel_rfl) rfl #[.pointer (some v0)] rfl gZ ?_; (with_reducible refine (spec_l03Ok.calls k _ a0_0 a0_1 a0_2 a0_3 a0_4 a0_5 false _ ?side1 A3.out).mono ?_); (case side1 => exact HV0.out); rintro e w' ⟨rfl, ⟨nd, rfl⟩⟩; refine ⟨_, rfl, ?_⟩))
  go_ret
  exact ⟨sZ, dZ⟩
def spec_l01Div.f (a0 : Int) (a1 : Int) : Option (Int) := if a1 < 0 then (if (wrap64 (-a0)) < 0 then (if (wrap64 (2 * (wrap64 (-a1)))) = 0 then (none) else (some (wrap64 (-(wrap64 (Int.tdiv (wrap64 ((wrap64 (-a1)) - (wrap64 (2 * (wrap64 (-a0)))))) (wrap64 (2 * (wrap64 (-a1)))))))))) else (if (wrap64 (2 * (wrap64 (-a1)))) = 0 then (none) else (some (wrap64 (Int.tdiv (wrap64 ((wrap64 (2 * (wrap64 (-a0)))) + (wrap64 (-a1)))) (wrap64 (2 * (wrap64 (-a1))))))))) else (if a0 < 0 then (if (wrap64 (2 * a1)) = 0 then (none) else (some (wrap64 (-(wrap64 (Int.tdiv (wrap64 (a1 - (wrap64 (2 * a0)))) (wrap64 (2 * a1)))))))) else (if (wrap64 (2 * a1)) = 0 then (none) else (some (wrap64 (Int.tdiv (wrap64 ((wrap64 (2 * a0)) + a1)) (wrap64 (2 * a1)))))))
set_option maxHeartbeats 8000000 in
set_option maxRecDepth 100000 in
theorem spec_l01Div.calls (a0 : Int) (a1 : Int) (r : Int) (w : World) (h : spec_l01Div.f a0 a1 = some r) :
  Calls Try.prog 70 #[.int .i64 a0, .int .i64 a1] w fun e w' => e = .returned (.int .i64 r) ∧ Drawn0 w w' := by
 have H : (if a1 < 0 then (if (wrap64 (-a0)) < 0 then (if (wrap64 (2 * (wrap64 (-a1)))) = 0 then (none) else (some (wrap64 (-(wrap64 (Int.tdiv (wrap64 ((wrap64 (-a1)) - (wrap64 (2 * (wrap64 (-a0)))))) (wrap64 (2 * (wrap64 (-a1)))))))))) else (if (wrap64 (2 * (wrap64 (-a1)))) = 0 then (none) else (some (wrap64 (Int.tdiv (wrap64 ((wrap64 (2 * (wrap64 (-a0)))) + (wrap64 (-a1)))) (wrap64 (2 * (wrap64 (-a1))))))))) else (if a0 < 0 then (if (wrap64 (2 * a1)) = 0 then (none) else (some (wrap64 (-(wrap64 (Int.tdiv (wrap64 (a1 - (wrap64 (2 * a0)))) (wrap64 (2 * a1)))))))) else (if (wrap64 (2 * a1)) = 0 then (none) else (some (wrap64 (Int.tdiv (wrap64 ((wrap64 (2 * a0)) + a1)) (wrap64 (2 * a1)))))))) = some r := h
 clear h
 by_cases c3 : a1 < 0
 ·rw [if_pos c3] at H
  have c3b0 : decide (a1 < 0) = true := decide_eq_true c3
  clear c3
  by_cases c4 : (wrap64 (-a0)) < 0
  ·rw [if_pos c4] at H
   have c4b0 : decide ((wrap64 (-a0)) < 0) = true := decide_eq_true c4
   clear c4
   by_cases c5 : (wrap64 (2 * (wrap64 (-a1)))) = 0
   ·rw [if_pos c5] at H
    exact absurd H (by simp)
   ·rw [if_neg c5] at H
    have c5b0 : ((wrap64 (2 * (wrap64 (-a1)))) == 0) = false := beq_eq_false_iff_ne.mpr c5
    have c5b1 : ((wrap64 (2 * (wrap64 (-a1)))) != 0) = true := bne_iff_ne.mpr c5
    obtain rfl := Option.some.inj H
    go_enter Try.func70, Try.ntmps70
    go_wp2
    go_ret
    exact ⟨sZ, dZ⟩
  ·rw [if_neg c4] at H
   have c4b0 : decide ((wrap64 (-a0)) < 0) = false := decide_eq_false c4
   clear c4
   by_cases c6 : (wrap64 (2 * (wrap64 (-a1)))) = 0
   ·rw [if_pos c6] at H
    exact absurd H (by simp)
   ·rw [if_neg c6] at H
    have c6b0 : ((wrap64 (2 * (wrap64 (-a1)))) == 0) = false := beq_eq_false_iff_ne.mpr c6
    have c6b1 : ((wrap64 (2 * (wrap64 (-a1)))) != 0) = true := bne_iff_ne.mpr c6
    obtain rfl := Option.some.inj H
    go_enter Try.func70, Try.ntmps70
    go_wp2
    go_ret
    exact ⟨sZ, dZ⟩
 ·rw [if_neg c3] at H
  have c3b0 : decide (a1 < 0) = false := decide_eq_false c3
  clear c3
  by_cases c7 : a0 < 0
  ·rw [if_pos c7] at H
   have c7b0 : decide (a0 < 0) = true := decide_eq_true c7
   clear c7
   by_cases c8 : (wrap64 (2 * a1)) = 0
   ·rw [if_pos c8] at H
    exact absurd H (by simp)
   ·rw [if_neg c8] at H
    have c8b0 : ((wrap64 (2 * a1)) == 0) = false := beq_eq_false_iff_ne.mpr c8
    have c8b1 : ((wrap64 (2 * a1)) != 0) = true := bne_iff_ne.mpr c8
    obtain rfl := Option.some.inj H
    go_enter Try.func70, Try.ntmps70
    go_wp2
    go_ret
    exact ⟨sZ, dZ⟩
  ·rw [if_neg c7] at H
   have c7b0 : decide (a0 < 0) = false := decide_eq_false c7
   clear c7
   by_cases c9 : (wrap64 (2 * a1)) = 0
   ·rw [if_pos c9] at H
    exact absurd H (by simp)
   ·rw [if_neg c9] at H
    have c9b0 : ((wrap64 (2 * a1)) == 0) = false := beq_eq_false_iff_ne.mpr c9
    have c9b1 : ((wrap64 (2 * a1)) != 0) = true := bne_iff_ne.mpr c9
    obtain rfl := Option.some.inj H
    go_enter Try.func70, Try.ntmps70
    go_wp2
    go_ret
    exact ⟨sZ, dZ⟩
def spec_l03Water.f (a0_0 : ByteArray) (a0_1 : Int) (a0_2 : Int) (a0_3 : Int) (a0_4 : Int) (a0_5 : Int) : Option (Int) := (spec_l01Div.f (wrap64 ((wrap64 ((wrap64 (a0_3 * a0_4)) * a0_4)) * 7854)) 10000).bind fun t350 => (some t350)
set_option maxHeartbeats 8000000 in
set_option maxRecDepth 100000 in
theorem spec_l03Water.calls (v0 : Addr) (a0_0 : ByteArray) (a0_1 : Int) (a0_2 : Int) (a0_3 : Int) (a0_4 : Int) (a0_5 : Int) (r : Int) (w : World) (hv0 : ViewAt w v0 [.string a0_0, .int .i64 a0_1, .int .i64 a0_2, .int .i64 a0_3, .int .i64 a0_4, .int .i64 a0_5]) (h : spec_l03Water.f a0_0 a0_1 a0_2 a0_3 a0_4 a0_5 = some r) :
  Calls Try.prog 68 #[.pointer (some v0)] w fun e w' => e = .returned (.int .i64 r) ∧ Drawn0 w w' := by
 have HV0 := Aside0.mk hv0
 have hvw0_0 : w.cell? v0 = some (.string a0_0) := hv0.at0
 have hvw0_1 : w.cell? ⟨v0.block, v0.off + 1, none⟩ = some (.int .i64 a0_1) := hv0.at_ 1 (by decide) rfl
 have hvw0_2 : w.cell? ⟨v0.block, v0.off + 2, none⟩ = some (.int .i64 a0_2) := hv0.at_ 2 (by decide) rfl
 have hvw0_3 : w.cell? ⟨v0.block, v0.off + 3, none⟩ = some (.int .i64 a0_3) := hv0.at_ 3 (by decide) rfl
 have hvw0_4 : w.cell? ⟨v0.block, v0.off + 4, none⟩ = some (.int .i64 a0_4) := hv0.at_ 4 (by decide) rfl
 have hvw0_5 : w.cell? ⟨v0.block, v0.off + 5, none⟩ = some (.int .i64 a0_5) := hv0.at_ 5 (by decide) rfl
 clear hv0
 have H : ((spec_l01Div.f (wrap64 ((wrap64 ((wrap64 (a0_3 * a0_4)) * a0_4)) * 7854)) 10000).bind fun t350 => (some t350)) = some r := h
 clear h
 replace H := Option.bind_eq_some_iff.mp H
 obtain ⟨t350, A20, H⟩ := H
 replace H : (some t350) = some r := H
 have A2 := Aside0.mk A20
 clear A20
 obtain rfl := Option.some.inj H
 go_enter Try.func68, Try.ntmps68
 go_wp2_with (first | (go_at_call 70; (with_reducible refine (spec_l01Div.calls (wrap64 ((wrap64 ((wrap64 (a0_3 * a0_4)) * a0_4)) * 7854)) 10000 t350 _ A2.out).mono ?_); rintro e w' ⟨rfl, ⟨nd, rfl⟩⟩; (try first | exact ⟨rfl, _, World.drewN_drewN _ _ _⟩ | exact ⟨rfl, _, Eq.trans (World.drewN_drewN _ _ _) (congrArg (World.drewN _) (Nat.add_assoc _ _ _))⟩)))
 repeat (go_quiet (first | (go_at_call 70; (with_reducible refine (spec_l01Div.calls (wrap64 ((wrap64 ((wrap64 (a0_3 * a0_4)) * a0_4)) * 7854)) 10000 t350 _ A2.out).mono ?_); rintro e w' ⟨rfl, ⟨nd, rfl⟩⟩; (try first | exact ⟨rfl, _, World.drewN_drewN _ _ _⟩ | exact ⟨rfl, _, Eq.trans (World.drewN_drewN _ _ _) (congrArg (World.drewN _) (Nat.add_assoc _ _ _))⟩))); try go_wp2_with (first | (go_at_call 70; (with_reducible refine (spec_l01Div.calls (wrap64 ((wrap64 ((wrap64 (a0_3 * a0_4)) * a0_4)) * 7854)) 10000 t350 _ A2.out).mono ?_); rintro e w' ⟨rfl, ⟨nd, rfl⟩⟩; (try first | exact ⟨rfl, _, World.drewN_drewN _ _ _⟩ | exact ⟨rfl, _, Eq.trans (World.drewN_drewN _ _ _) (congrArg (World.drewN _) (Nat.add_assoc _ _ _))⟩))))
 go_ret
 exact ⟨sZ, dZ⟩
def spec_l00Max.f (a0 : Int) (a1 : Int) : Option (Int) := if a0 > a1 then (some a0) else (some a1)
set_option maxHeartbeats 8000000 in
set_option maxRecDepth 100000 in
theorem spec_l00Max.calls (a0 : Int) (a1 : Int) (r : Int) (w : World) (h : spec_l00Max.f a0 a1 = some r) :
  Calls Try.prog 72 #[.int .i64 a0, .int .i64 a1] w fun e w' => e = .returned (.int .i64 r) ∧ Drawn0 w w' := by
 have H : (if a0 > a1 then (some a0) else (some a1)) = some r := h
 clear h
 by_cases c3 : a0 > a1
 ·rw [if_pos c3] at H
  have c3b0 : decide (a1 < a0) = true := decide_eq_true c3
  clear c3
  obtain rfl := Option.some.inj H
  go_enter Try.func72, Try.ntmps72
  go_wp2
  go_ret
  exact ⟨sZ, dZ⟩
 ·rw [if_neg c3] at H
  have c3b0 : decide (a1 < a0) = false := decide_eq_false c3
  clear c3
  obtain rfl := Option.some.inj H
  go_enter Try.func72, Try.ntmps72
  go_wp2
  go_ret
  exact ⟨sZ, dZ⟩
def spec_l03Abs.f (a0 : Int) : Option (Int) := (spec_l00Max.f a0 (wrap64 (-a0))).bind fun t351 => (some t351)
set_option maxHeartbeats 8000000 in
set_option maxRecDepth 100000 in
theorem spec_l03Abs.calls (a0 : Int) (r : Int) (w : World) (h : spec_l03Abs.f a0 = some r) :
  Calls Try.prog 69 #[.int .i64 a0] w fun e w' => e = .returned (.int .i64 r) ∧ Drawn0 w w' := by
 have H : ((spec_l00Max.f a0 (wrap64 (-a0))).bind fun t351 => (some t351)) = some r := h
 clear h
 replace H := Option.bind_eq_some_iff.mp H
 obtain ⟨t351, A20, H⟩ := H
 replace H : (some t351) = some r := H
 have A2 := Aside0.mk A20
 clear A20
 obtain rfl := Option.some.inj H
 go_enter Try.func69, Try.ntmps69
 go_wp2_with (first | ((with_reducible refine gate_callee (f := 72) rfl ?_); refine goesL_ (some 6) rfl rfl Try.func72 (by kernel_rfl) rfl #[.int .i64 a0, .int .i64 (wrap64 (-a0))] rfl gZ ?_; (with_reducible refine (spec_l00Max.calls a0 (wrap64 (-a0)) t351 _ A2.out).mono ?_); rintro e w' ⟨rfl, ⟨nd, rfl⟩⟩; refine ⟨_, rfl, ?_⟩))
 go_ret
 exact ⟨sZ, dZ⟩
end Go.Proofs.Ytmmlhbfkchbpaaa.XX
end
