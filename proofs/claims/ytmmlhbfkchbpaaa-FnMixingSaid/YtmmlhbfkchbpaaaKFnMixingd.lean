/- The law FnMixing: part 3 of its texts, joined (wip/pack.py). -/
import Derived.Test.YtmmlhbfkchbpaaaKFnMixinga
import Derived.Test.YtmmlhbfkchbpaaaKFnMixingb
import Derived.Test.YtmmlhbfkchbpaaaKFnMixingc

section
namespace Go.Proofs.Ytmmlhbfkchbpaaa.XX
open Go.RowKit Go.Proofs.YtmmlhbfkchbpaaaW.PrintWords Go.Proofs.YtmmlhbfkchbpaaaW.PrintLast Go.Proofs.YtmmlhbfkchbpaaaW.PrintMore
attribute [local go_sem] run_eql_slice_nil binOp_string_gtr' binOp_string_leq' binOp_string_geq' max2_int min2_int max_two min_two max_three min_three max_four min_four   -- for this text's walks alone
set_option linter.unusedVariables false
set_option linter.unusedSimpArgs false
def slices_Clone_StepS.f (l0 : List (S49)) : Option ((List (S49))) := (some (([] : List (S49)) : List (S49))).bind fun y176 => (if y176.length + l0.length < 8796093022208 then (some (y176 ++ l0)) else (none))
set_option maxHeartbeats 8000000 in
set_option maxRecDepth 100000 in
theorem slices_Clone_StepS.calls (A0 : Option Addr) (c0 : Nat) (l0 : List (S49)) (r : List (S49)) (w : World) (hr0 : Kd.C k49 w A0 l0.length l0) (hc0 : l0.length ≤ c0) (h : slices_Clone_StepS.f l0 = some r) :
  Calls Try.prog 40 #[.slice A0 l0.length c0] w fun e w' => ∃ v0_ : Value, e = .returned (v0_) ∧ Kd.R k49 49 w' w.heap.size (fun _ => True) v0_ r ∧ Below w.heap.size w w' := by
 have HR0 := Aside0.mk hr0
 have HC0 := Aside0.mk hc0
 clear hr0 hc0
 have HB := Aside0.mk (Below.refl w.heap.size w)
 have H : ((some (([] : List (S49)) : List (S49))).bind fun y176 => (if y176.length + l0.length < 8796093022208 then (some (y176 ++ l0)) else (none))) = some r := h
 clear h
 by_cases hz2 : A0 = none
 ·subst hz2
  have hl_ : l0 = [] := nil_of_C HR0.out
  subst hl_
  have H1 : (some ([] : List (S49))) = some r := by simpa using H
  clear H
  have H := H1
  clear H1
  obtain rfl := Option.some.inj H
  go_enter Try.func40, Try.ntmps40
  go_wp2
  go_ret
  exact ⟨_, eZ, by first | exact Kd.R_nil _ _ _ _ _ | exact Kd.N_nil _ _ _ _ _ | exact Kd.V_nil _ _ _ _ _ | exact Kd.Q_nil _ _ _ _ _ | exact Kd.S_nil _ _ _ _ _, bZ⟩
 ·have hz2b : A0.isNone = false := by cases A0 <;> simp_all
  clear hz2
  obtain ⟨y176, hy176⟩ : ∃ y_ : List (S49), y_ = (([] : List (S49))) := ⟨_, rfl⟩
  replace H : (if y176.length + l0.length < 8796093022208 then (some (y176 ++ l0)) else (none)) = some r := by first | (rw [hy176]; with_reducible exact H) | (have H2_ := (Option.bind_some _ _).symm.trans H; rw [hy176]; with_reducible exact H2_) | (have H2_ := (Option.bind_some _ _).symm.trans H; with_reducible exact H2_) | with_reducible exact H | (rw [hy176]; exact H) | exact H
  have Ny176 := Aside0.mk hy176
  clear hy176
  by_cases c3 : y176.length + l0.length < 8796093022208
  ·rw [if_pos c3] at H
   have LMc3 := Aside0.mk c3
   clear c3
   obtain ⟨y179, hy179⟩ : ∃ y_ : List (S49), y_ = (y176 ++ l0) := ⟨_, rfl⟩
   replace H : (some y179) = some r := by first | (rw [hy179]; with_reducible exact H) | (have H2_ := (Option.bind_some _ _).symm.trans H; rw [hy179]; with_reducible exact H2_) | (have H2_ := (Option.bind_some _ _).symm.trans H; with_reducible exact H2_) | with_reducible exact H | (rw [hy179]; exact H) | exact H
   have Ny179 := Aside0.mk hy179
   clear hy179
   obtain rfl := Option.some.inj H
   go_enter Try.func40, Try.ntmps40
   go_wp2_with (first | ((with_reducible refine gate_dst (N := 5) rfl ?_); refine Kd.R_lit k49 _ 49 ?hg (N := 5) ?hd (xs := ([] : List (S49))) (inner := []) (ok := fun _ => True) (okp := fun _ => True) ?hr ?hp (fun _ hk => hk) trivial (Below.refl _ _) (Nat.le_refl _) (by simp) ?_; (case hd => rfl); (case hg => rfl); (case hr => first | (go_simp; done) | (go_simp; rfl)); (case hp => exact (Reps.none _ _)); intro v177 w4 ho5 hb hg_ hnew_; clear hg_ hnew_; (first | rw [← Ny176.out] at ho5 | (simp only [Int.reduceToNat] at ho5; rw [← Ny176.out] at ho5)); have n0_ := Aside0.mk (Kd.R_lower ho5 bsZ); have n1_ := Aside0.mk (below_step bZ hb); clear HB; have HO178 := n0_; have HB := n1_; clear n0_ n1_; clear hb ho5) | ((with_reducible refine gate_builtin (b := .append) (xs := #[.tmp 5, .tmp 6]) rfl ?_); at_builtin; refine Kd.R_append_rows k49 (w0 := w) w.heap.size rfl (.tmp 5) (.tmp 6) 24 49 (.agg #[(.int .i64 0), (.int .i64 0)]) 16 rfl Try.underlying24 info49 rfl (by decide) (by omega) v177 y176 l0 _ _ _ (fun _ => True) (fun _ => False) rfl rfl ?aO ?aR (fun _ _ h => h) (fun _ h => h.elim) ?aF ?aB ?aS ?aL ?_; (case aR => repeat (first | exact (Kd.C_below HR0.out HB.out) | (with_reducible refine Kd.C_alloc ?_ _) | (with_reducible refine Kd.C_drewN ?_ _) | (with_reducible refine Kd.C_drew ?_))); (case aB => exact bZ); (case aF => exact (fun _ _ => trivial)); (case aO => exact (Kd.rZ HO178.out)); (case aS => exact bsZ); (case aL => have := LMc3.out; omega); intro v180 w6 ho hb hg hat; rw [← Ny179.out] at ho; have n0_ := Aside0.mk (hb); have n1_ := Aside0.mk (ho); clear HB; clear HO178; have HB := n0_; have HO181 := n1_; clear n0_ n1_; clear ho hb hg hat))
   go_ret
   exact ⟨_, eZ, Kd.rZ HO181.out, bZ⟩
  ·rw [if_neg c3] at H
   exact absurd H (by simp)
def impl_trimmedWave_c1.f (a0_0 : Int) (a0_1 : Int) (a1_0 : Int) (a1_1 : Int) : Option (Bool) := some (a0_1 == a1_1)
set_option maxHeartbeats 8000000 in
set_option maxRecDepth 100000 in
theorem impl_trimmedWave_c1.calls (a0_0 : Int) (a0_1 : Int) (a1_0 : Int) (a1_1 : Int) (r : Bool) (w : World) (h : impl_trimmedWave_c1.f a0_0 a0_1 a1_0 a1_1 = some r) :
  Calls Try.prog 57 #[.agg #[.int .i64 a0_0, .int .i64 a0_1], .agg #[.int .i64 a1_0, .int .i64 a1_1]] w fun e w' => e = .returned (.bool r) ∧ Below w.heap.size w w' := by
 have hu49 := Try.underlying49
 have HB := Aside0.mk (Below.refl w.heap.size w)
 have H : (some (a0_1 == a1_1)) = some r := h
 clear h
 obtain rfl := Option.some.inj H
 go_enter Try.func57, Try.ntmps57
 go_wp2_with (first | ((with_reducible refine gate_dst (N := 2) rfl ?_); refine boxZ 2 #[.int .i64 a0_0, .int .i64 a0_1] 49 rfl rfl ?_; intro gb182 hg w3 hbox hb; have n0_ := Aside0.mk (below_step bZ hb); have n1_ := Aside0.mk (hbox); have n2_ := Aside0.mk ((by rw [hg]; exact bsZ : w.heap.size ≤ gb182)); have n3_ := Aside0.mk ((by rw [hg]; exact bsZ : w.heap.size ≤ gb182)); clear HB; have HB := n0_; have BK182 := n1_; have GW182 := n2_; have GE182 := n3_; clear n0_ n1_ n2_ n3_; clear hb hbox hg) | ((with_reducible refine gate_dst (N := 3) rfl ?_); refine boxZ 3 #[.int .i64 a1_0, .int .i64 a1_1] 49 rfl rfl ?_; intro gb183 hg w4 hbox hb; have n0_ := Aside0.mk (blk_below (g := gb182) (o := .cells #[.int .i64 a0_0, .int .i64 a0_1] 49 (0, 0)) (kZ BK182.out) hb); have n1_ := Aside0.mk (below_step bZ hb); have n2_ := Aside0.mk (hbox); have n3_ := Aside0.mk ((by rw [hg]; exact bsZ : w.heap.size ≤ gb183)); have n4_ := Aside0.mk ((by rw [hg]; exact bsZ : w.heap.size ≤ gb183)); have n5_ := Aside0.mk ((by rw [hg]; exact Nat.ne_of_lt (blk_lt (g := gb182) (o := .cells #[.int .i64 a0_0, .int .i64 a0_1] 49 (0, 0)) (kZ BK182.out)) : gb182 ≠ gb183)); have n6_ := Aside0.mk ((by rw [hg]; exact Nat.ne_of_gt (blk_lt (g := gb182) (o := .cells #[.int .i64 a0_0, .int .i64 a0_1] 49 (0, 0)) (kZ BK182.out)) : gb183 ≠ gb182)); clear BK182; clear HB; have BK182 := n0_; have HB := n1_; have BK183 := n2_; have GW183 := n3_; have GE183 := n4_; have NB182_183 := n5_; have NB183_182 := n6_; clear n0_ n1_ n2_ n3_ n4_ n5_ n6_; clear hb hbox hg; have hnb5 := NB182_183.out; have hnc5 := NB183_182.out; have hcz6_0 := bc0 BK182.out; have hcz6_1 := bc1 BK182.out; have hfz6_0 := blk_frozen BK182.out 0; have hfz6_1 := blk_frozen BK182.out 1; have hcz7_0 := bc0 BK183.out; have hcz7_1 := bc1 BK183.out; have hfz7_0 := blk_frozen BK183.out 0; have hfz7_1 := blk_frozen BK183.out 1))
 go_ret
 exact ⟨eZ, bZ⟩
end Go.Proofs.Ytmmlhbfkchbpaaa.XX
end

section
namespace Go.Proofs.Ytmmlhbfkchbpaaa.XX
open Go.RowKit Go.Proofs.YtmmlhbfkchbpaaaW.PrintWords Go.Proofs.YtmmlhbfkchbpaaaW.PrintLast Go.Proofs.YtmmlhbfkchbpaaaW.PrintMore
attribute [local go_sem] run_eql_slice_nil binOp_string_gtr' binOp_string_leq' binOp_string_geq' max2_int min2_int max_two min_two max_three min_three max_four min_four   -- for this text's walks alone
set_option linter.unusedVariables false
set_option linter.unusedSimpArgs false
mutual
def slices_CompactFunc_StepS.l0 : Nat → List (S49) → Int → Option ((List (S49)))
 | 0, _, _ => none
 | k + 1, x0, x5 => if x5 < (x0.length : Int) then (if 0 ≤ x5 then (if 0 ≤ (wrap64 (x5 - 1)) then (if (wrap64 (x5 - 1)) < (x0.length : Int) then ((impl_trimmedWave_c1.f ((rd_T49 x0 x5).f0) ((rd_T49 x0 x5).f1) ((rd_T49 x0 (wrap64 (x5 - 1))).f0) ((rd_T49 x0 (wrap64 (x5 - 1))).f1)).bind fun t186 => (if t186 = true then (if x5 ≤ (x0.length : Int) then (slices_CompactFunc_StepS.l1 k x0 x5 (x0.drop (x5 : Int).toNat) 1) else (none)) else (slices_CompactFunc_StepS.l0 k x0 (wrap64 (x5 + 1))))) else (none)) else (none)) else (none)) else (some x0)
def slices_CompactFunc_StepS.l1 : Nat → List (S49) → Int → List (S49) → Int → Option ((List (S49)))
 | 0, _, _, _, _ => none
 | k + 1, x0, x5, x6, x7 => if x7 < (x6.length : Int) then (if 0 ≤ x7 then (if 0 ≤ (wrap64 (x7 - 1)) then (if (wrap64 (x7 - 1)) < (x6.length : Int) then ((impl_trimmedWave_c1.f ((rd_T49 x6 x7).f0) ((rd_T49 x6 x7).f1) ((rd_T49 x6 (wrap64 (x7 - 1))).f0) ((rd_T49 x6 (wrap64 (x7 - 1))).f1)).bind fun t193 => (if t193 = true then (slices_CompactFunc_StepS.l1 k x0 x5 x6 (wrap64 (x7 + 1))) else (if 0 ≤ x5 then (if x5 < (x0.length : Int) then (slices_CompactFunc_StepS.l1 k (x0.set (x5 : Int).toNat (⟨(rd_T49 x6 x7).f0, (rd_T49 x6 x7).f1⟩ : S49)) (wrap64 (x5 + 1)) x6 (wrap64 (x7 + 1))) else (none)) else (none)))) else (none)) else (none)) else (none)) else (if 0 ≤ x5 then (if x5 ≤ (x0.length : Int) then (some ((x0.take (x5 : Int).toNat ++ List.replicate (x0.length - (x5 : Int).toNat) z49).take (x5 : Int).toNat)) else (none)) else (none))
end
def slices_CompactFunc_StepS.f (k : Nat) (l0 : List (S49))  : Option ((List (S49))) := if (l0.length : Int) < 2 then (some l0) else (slices_CompactFunc_StepS.l0 k l0 1)
def slices_CompactFunc_StepS.T6 : Bool × List (List Nat × List Nat) := (true, [([], []), ([], []), ([], []), ([1, 2], [1, 2]), ([3], [3]), ([], []), ([], []), ([6], [6]), ([5, 7], [5, 7]), ([8], [8]), ([0, 4, 9], [0, 4, 9])])
def slices_CompactFunc_StepS.B6 : List Nat := [0, 0, 0, 6, 14, 0, 0, 64, 224, 480, 1023]
theorem slices_CompactFunc_StepS.tab6 : rtab .any (opsOf Try.f56 6) = slices_CompactFunc_StepS.T6 := by kernel_rfl
theorem slices_CompactFunc_StepS.bits6 : waitsOk slices_CompactFunc_StepS.T6.2 slices_CompactFunc_StepS.B6 = true := by kernel_rfl
def slices_CompactFunc_StepS.T11 : Bool × List (List Nat × List Nat) := (true, [([], []), ([], []), ([], []), ([1, 2], [1, 2]), ([3], [3]), ([], []), ([], []), ([6], [6]), ([5, 7], [5, 7]), ([8], [8]), ([0, 4, 9], [0, 4, 9]), ([10], [10])])
def slices_CompactFunc_StepS.B11 : List Nat := [0, 0, 0, 6, 14, 0, 0, 64, 224, 480, 1023, 2047]
theorem slices_CompactFunc_StepS.tab11 : rtab .any (opsOf Try.f56 11) = slices_CompactFunc_StepS.T11 := by kernel_rfl
theorem slices_CompactFunc_StepS.bits11 : waitsOk slices_CompactFunc_StepS.T11.2 slices_CompactFunc_StepS.B11 = true := by kernel_rfl
def slices_CompactFunc_StepS.TL (x0 x1 : List S49) (a b c : Int) (y : List S49) : Prop := x1.length = x0.length ∧ 0 ≤ a ∧ a ≤ b ∧ b ≤ a + c - 1 ∧ 1 ≤ c ∧ y.length = x0.length - a.toNat ∧ ∀ j : Nat, c - 1 ≤ (j : Int) → (x1.drop a.toNat).getD j z49 = y.getD j z49
theorem slices_CompactFunc_StepS.TL.read {x0 x1 : List S49} {a b c : Int} {y : List S49} (h : slices_CompactFunc_StepS.TL x0 x1 a b c y) (i : Int) (h0 : 0 ≤ i) (h1 : c - 1 ≤ i) : rd_T49 (x1.drop a.toNat) i = rd_T49 y i := h.2.2.2.2.2.2 i.toNat (by omega)
theorem slices_CompactFunc_StepS.TL.start {x0 : List S49} {a : Int} {y : List S49} (h : y = x0.drop a.toNat) (h0 : 0 ≤ a) : slices_CompactFunc_StepS.TL x0 x0 a a 1 y := ⟨rfl, h0, Int.le_refl _, by omega, by omega, by rw [h, List.length_drop], fun j _ => by rw [h]⟩
theorem slices_CompactFunc_StepS.TL.skip {x0 x1 : List S49} {a b c : Int} {y : List S49} (h : slices_CompactFunc_StepS.TL x0 x1 a b c y) (hc : c < 9223372036854775807) : slices_CompactFunc_StepS.TL x0 x1 a b (wrap64 (c + 1)) y := by
 obtain ⟨h1, h2, h3, h4, h5, h6, h7⟩ := h
 rw [show wrap64 (c + 1) = c + 1 by unfold wrap64; omega]
 exact ⟨h1, h2, h3, by omega, by omega, h6, fun j hj => h7 j (by omega)⟩
theorem slices_CompactFunc_StepS.TL.store {x0 x1 : List S49} {a b c : Int} {y : List S49} (v : S49) (h : slices_CompactFunc_StepS.TL x0 x1 a b c y) (hc : c < 9223372036854775807) (hb : b < 9223372036854775807) : slices_CompactFunc_StepS.TL x0 (x1.set b.toNat v) a (wrap64 (b + 1)) (wrap64 (c + 1)) y := by
 obtain ⟨h1, h2, h3, h4, h5, h6, h7⟩ := h
 rw [show wrap64 (c + 1) = c + 1 by unfold wrap64; omega, show wrap64 (b + 1) = b + 1 by unfold wrap64; omega]
 refine ⟨by rw [List.length_set]; exact h1, h2, by omega, by omega, by omega, h6, fun j hj => ?_⟩
 rw [← h7 j (by omega)]
 simp only [List.getD_eq_getElem?_getD, List.getElem?_drop, List.getElem?_set]
 rw [if_neg (by omega)]
set_option maxHeartbeats 8000000 in
set_option maxRecDepth 100000 in
theorem slices_CompactFunc_StepS.calls (k : Nat) (P0_ : Nat → Prop) (u9000_ : Value) (l0 : List (S49))  (r : List (S49)) (w0 w : World) (hB : Below w0.heap.size w0 w) (ho0 : Kd.R k49 49 w w0.heap.size P0_ u9000_ l0) (h : slices_CompactFunc_StepS.f k l0 = some r) :
  Calls Try.prog 56 #[u9000_, .func (.func 57) #[] #[]] w fun e w' => ∃ v0_ : Value, e = .returned (v0_) ∧ Kd.R k49 49 w' w0.heap.size (fun k_ => (P0_ k_ ∨ w.heap.size ≤ k_)) v0_ r ∧ Below w0.heap.size w0 w' ∧ Kept w w' (fun k_ => P0_ k_) := by
 have hu49 := Try.underlying49
 have HO0 := Aside0.mk (show Kd.R k49 49 w w0.heap.size (fun k_ => (P0_ k_ ∨ w.heap.size ≤ k_)) u9000_ l0 from Kd.R_mono ho0 (fun k_ hk => (.inl hk)))
 have HK := Aside0.mk (Kept.refl w (fun k_ => P0_ k_))
 have HW0 := Aside0.mk hB.size
 have HB := Aside0.mk hB
 clear hB
 have H : (if (l0.length : Int) < 2 then (some l0) else (slices_CompactFunc_StepS.l0 k l0 1)) = some r := h
 clear h
 by_cases c3 : (l0.length : Int) < 2
 ·rw [if_pos c3] at H
  have c3b0 : decide ((l0.length : Int) < 2) = true := decide_eq_true c3
  have c3b1 : decide (l0.length < 2) = true := decide_eq_true (by omega)
  clear c3
  obtain rfl := Option.some.inj H
  obtain ⟨Ao4, co4, eo4⟩ := Kd.R_slice HO0.out
  subst eo4
  go_enter Try.func56, Try.ntmps56
  go_wp2
  go_ret
  exact ⟨_, eZ, Kd.rZ HO0.out, bZ, by repeat (first | (with_reducible first | exact HK.out | apply Kept.alloc | apply Kept.drewN | apply Kept.drew) | exact HK.out)⟩
 ·rw [if_neg c3] at H
  have c3b0 : decide ((l0.length : Int) < 2) = false := decide_eq_false c3
  have c3b1 : decide (l0.length < 2) = false := decide_eq_false (by omega)
  clear c3
  have H' := Aside0.mk H
  clear H
  obtain ⟨Ao5, co5, eo5⟩ := Kd.R_slice HO0.out
  subst eo5
  go_enter Try.func56, Try.ntmps56
  go_wp2
  go_loopg [5] k (fun kq v5 w' => ∃ (x0_1 : List (S49)) (x5_1 : Int), v5 = .int .i64 x5_1 ∧ Aside0 (slices_CompactFunc_StepS.l0 kq x0_1 x5_1 = some r) ∧ Aside0 (kq ≤ k) ∧ Aside0 (Kd.R k49 49 w' w0.heap.size (fun k_ => (P0_ k_ ∨ w.heap.size ≤ k_)) (.slice Ao5 l0.length co5) x0_1) ∧ Aside0 (Kept w w' (fun k_ => P0_ k_)) ∧ Aside0 (Below w0.heap.size w0 w'))
  case atStart => exact ⟨(l0), (1), sZ, H', ⟨Nat.le_refl _⟩, ⟨Kd.rZ HO0.out⟩, ⟨by repeat (first | (with_reducible first | exact HK.out | apply Kept.alloc | apply Kept.drewN | apply Kept.drew) | exact HK.out)⟩, ⟨bZ⟩⟩
  case round =>
   clear H'; (try clear p2); (try clear c3); (try clear c3b0); (try clear c3b1); (try clear c5)
   obtain ⟨x0_1, x5_1, rfl, HA, HK1, HO_0, HK, HB⟩ := hrel
   have hl0_1 := (Kd.R_reads' HO_0.out).1
   rw [hl0_1] at HO_0
   (try simp only [hl0_1])
   cases gk with
   | zero => exact absurd HA.out (by simp [slices_CompactFunc_StepS.l0])
   | succ k1 =>
    have H := HA.out
    clear HA
    simp only [slices_CompactFunc_StepS.l0] at H
    by_cases c6 : x5_1 < (x0_1.length : Int)
    ·rw [if_pos c6] at H
     have c6b0 : decide (x5_1 < (x0_1.length : Int)) = true := decide_eq_true c6
     clear c6
     by_cases c7 : 0 ≤ x5_1
     ·rw [if_pos c7] at H
      have c7b0 : decide (0 ≤ x5_1) = true := decide_eq_true c7
      clear c7
      obtain ⟨ji8, hji8⟩ : ∃ j_ : Int, (wrap64 (x5_1 - 1)) = j_ := ⟨_, rfl⟩
      replace H : (if 0 ≤ (ji8) then (if (ji8) < (x0_1.length : Int) then ((impl_trimmedWave_c1.f ((rd_T49 x0_1 x5_1).f0) ((rd_T49 x0_1 x5_1).f1) ((rd_T49 x0_1 (ji8)).f0) ((rd_T49 x0_1 (ji8)).f1)).bind fun t186 => (if t186 = true then (if x5_1 ≤ (x0_1.length : Int) then (slices_CompactFunc_StepS.l1 k1 x0_1 x5_1 (x0_1.drop (x5_1 : Int).toNat) 1) else (none)) else (slices_CompactFunc_StepS.l0 k1 x0_1 (wrap64 (x5_1 + 1))))) else (none)) else (none)) = some r := by first | (rw [hji8] at H; exact H) | (simp only [hji8] at H ⊢; exact H)
      have hji8w : (IntKind.i64.wrap (x5_1 - 1)) = ji8 := (i64_w _).trans hji8
      by_cases c9 : 0 ≤ (ji8)
      ·rw [if_pos c9] at H
       have c9b0 : decide (0 ≤ (ji8)) = true := decide_eq_true c9
       clear c9
       by_cases c10 : (ji8) < (x0_1.length : Int)
       ·rw [if_pos c10] at H
        have c10b0 : decide ((ji8) < (x0_1.length : Int)) = true := decide_eq_true c10
        clear c10
        replace H := Option.bind_eq_some_iff.mp H
        obtain ⟨t186, A110, H⟩ := H
        replace H : (if t186 = true then (if x5_1 ≤ (x0_1.length : Int) then (slices_CompactFunc_StepS.l1 k1 x0_1 x5_1 (x0_1.drop (x5_1 : Int).toNat) 1) else (none)) else (slices_CompactFunc_StepS.l0 k1 x0_1 (wrap64 (x5_1 + 1)))) = some r := H
        have A11 := Aside0.mk A110
        clear A110
        by_cases c12 : t186 = true
        ·subst c12
         have H1 : (if x5_1 ≤ (x0_1.length : Int) then (slices_CompactFunc_StepS.l1 k1 x0_1 x5_1 (x0_1.drop (x5_1 : Int).toNat) 1) else (none)) = some r := by rw [if_pos rfl] at H; exact H
         clear H
         have H := H1
         clear H1
         have c13b0 := eq_true (oZ : 0 ≤ x5_1)
         by_cases c14 : x5_1 ≤ (x0_1.length : Int)
         ·rw [if_pos c14] at H
          have c14b0 := eq_true c14
          have c14b1 : decide (x5_1 ≤ (x0_1.length : Int)) = true := decide_eq_true c14
          clear c14
          obtain ⟨y187, hy187⟩ : ∃ y_ : List (S49), y_ = (x0_1.drop (x5_1 : Int).toNat) := ⟨_, rfl⟩
          replace H : (slices_CompactFunc_StepS.l1 k1 x0_1 x5_1 y187 1) = some r := by first | (rw [hy187]; with_reducible exact H) | (have H2_ := (Option.bind_some _ _).symm.trans H; rw [hy187]; with_reducible exact H2_) | (have H2_ := (Option.bind_some _ _).symm.trans H; with_reducible exact H2_) | with_reducible exact H | (rw [hy187]; exact H) | exact H
          have Ny187 := Aside0.mk hy187
          clear hy187
          have H' := Aside0.mk H
          clear H
          try go_wp2
          have n0_ := Aside0.mk (Kd.R_drew HO_0.out)
          have n1_ := Aside0.mk (Kept.drew HK.out)
          have n2_ := Aside0.mk (below_drew1 HB.out)
          clear HO_0; clear HK; clear HB
          have HO_0 := n0_
          have HK := n1_
          have HB := n2_
          clear n0_ n1_ n2_
          have p184 : 0 ≤ (x5_1 : Int) := oZ
          have q184 : x5_1 < (x0_1.length : Int) := oZ
          obtain ⟨ad184, e184, hx184_0, hx184_1⟩ := at_T49 (Kd.R_reads' HO_0.out).2.2 x5_1 p184 q184
          cases e184
          replace p184 := eq_true p184
          replace q184 := eq_true q184
          have p185 : 0 ≤ ((ji8) : Int) := oZ
          have q185 : (ji8) < (x0_1.length : Int) := oZ
          obtain ⟨ad185, e185, hx185_0, hx185_1⟩ := at_T49 (Kd.R_reads' HO_0.out).2.2 (ji8) p185 q185
          obtain rfl : ad184 = ad185 := (by injection e185)
          replace p185 := eq_true p185
          replace q185 := eq_true q185
          refine start_ (n := 11) (S := fun w' => w'.cell? (ad184.add ((x5_1).toNat * 2)) = some (.int .i64 ((rd_T49 x0_1 x5_1).f0)) ∧ w'.cell? ⟨(ad184.add ((x5_1).toNat * 2)).block, (ad184.add ((x5_1).toNat * 2)).off + 1, none⟩ = some (.int .i64 ((rd_T49 x0_1 x5_1).f1)) ∧ w'.cell? (ad184.add (((ji8)).toNat * 2)) = some (.int .i64 ((rd_T49 x0_1 (ji8)).f0)) ∧ w'.cell? ⟨(ad184.add (((ji8)).toNat * 2)).block, (ad184.add (((ji8)).toNat * 2)).off + 1, none⟩ = some (.int .i64 ((rd_T49 x0_1 (ji8)).f1))) (ds := []) #[false, false, false, false, false, false, false, false, false, false, false] (by kernel_rfl) rfl rfl ⟨hx184_0, hx184_1, hx185_0, hx185_1⟩ (fun hHeld => ?_); refine with_tabW slices_CompactFunc_StepS.tab6 slices_CompactFunc_StepS.bits6 (fun HT_ HW_ => ?_)
          generalize wr.drew = w15 at HO_0 HK HB hx184_0 hx184_1 hx185_0 hx185_1 hHeld ⊢
          refine puZ 0 (some 18) #[true, false, false, false, false, false, false, false, false, false, false] rfl rfl HT_.out ?_
          refine puZ 1 (some 19) #[true, true, false, false, false, false, false, false, false, false, false] rfl rfl HT_.out ?_
          refine puZ 2 (some 20) #[true, true, true, false, false, false, false, false, false, false, false] rfl rfl HT_.out ?_
          refine puZ 3 (some 21) #[true, true, true, true, false, false, false, false, false, false, false] rfl rfl HT_.out ?_
          refine puZ 5 (some 23) #[true, true, true, true, false, true, false, false, false, false, false] rfl rfl HT_.out ?_
          refine puZ 6 (some 24) #[true, true, true, true, false, true, true, false, false, false, false] rfl rfl HT_.out ?_
          refine puZ 7 (some 25) #[true, true, true, true, false, true, true, true, false, false, false] rfl rfl HT_.out ?_
          refine puZ 8 (some 26) #[true, true, true, true, false, true, true, true, true, false, false] rfl rfl HT_.out ?_
          refine take_ (i := 4) (N := some 22) (v := ?_) (a' := ?_) #[true, true, true, true, true, true, true, true, true, false, false] rfl rfl (take_ofW HT_.out HW_.out (by kernel_rfl)) (fun _ _ _ h => h) (Or.inl ⟨by rfl, ?_⟩) hHeld ?_ ?_
          rotate_left
          ·rintro w' ⟨s0, s1, s2, s3⟩
           go_simp
           with_reducible rfl
          rotate_left
          ·simp only [Act.put, List.setIfInBounds_toArray, List.set_cons_zero, List.set_cons_succ, i64_w, i32_w]
           rfl
          refine take_ (i := 9) (N := some 27) (v := ?_) (a' := ?_) #[true, true, true, true, true, true, true, true, true, true, false] rfl rfl (take_ofW HT_.out HW_.out (by kernel_rfl)) (fun _ _ _ h => h) (Or.inl ⟨by rfl, ?_⟩) hHeld ?_ ?_
          rotate_left
          ·rintro w' ⟨s0, s1, s2, s3⟩
           go_simp
           with_reducible rfl
          rotate_left
          ·simp only [Act.put, List.setIfInBounds_toArray, List.set_cons_zero, List.set_cons_succ, i64_w, i32_w]
           rfl
          refine one_ (i := 10) (N := some 28) #[true, true, true, true, true, true, true, true, true, true, true] rfl rfl (one_of HT_.out (by kernel_rfl)) (by decide) (fun K hK => ?_)
          refine goesV_ Try.func57 (by kernel_rfl) rfl #[.agg #[.int .i64 ((rd_T49 x0_1 x5_1).f0), .int .i64 ((rd_T49 x0_1 x5_1).f1)], .agg #[.int .i64 ((rd_T49 x0_1 (ji8)).f0), .int .i64 ((rd_T49 x0_1 (ji8)).f1)]] (by rfl) rfl rfl (by rfl) (by (try simp only [List.map_toArray, List.map_cons, List.map_nil]); first | done | (simp only [hji8]; rfl) | rfl | (simp only [List.length_drop, List.length_take]; rfl)) ?_
          with_reducible refine (impl_trimmedWave_c1.calls ((rd_T49 x0_1 x5_1).f0) ((rd_T49 x0_1 x5_1).f1) ((rd_T49 x0_1 (ji8)).f0) ((rd_T49 x0_1 (ji8)).f1) true _ A11.out).mono ?_
          rintro e w16 ⟨rfl, hb⟩
          have HS0_ := (hb.cell (World.block_lt_of_cell? _ _ (hHeld.1))).trans (hHeld.1)
          have HS1_ := (hb.cell (World.block_lt_of_cell? _ _ (hHeld.2.1))).trans (hHeld.2.1)
          have HS2_ := (hb.cell (World.block_lt_of_cell? _ _ (hHeld.2.2.1))).trans (hHeld.2.2.1)
          have HS3_ := (hb.cell (World.block_lt_of_cell? _ _ (hHeld.2.2.2))).trans (hHeld.2.2.2)
          refine ⟨_, rfl, ?_⟩
          have n0_ := Aside0.mk (Kd.R_below (Kd.rZ HO_0.out) hb)
          have n1_ := Aside0.mk (Kept.below (S := (fun k_ => P0_ k_)) (by repeat (first | (with_reducible first | exact HK.out | apply Kept.alloc | apply Kept.drewN | apply Kept.drew) | exact HK.out)) hb)
          have n2_ := Aside0.mk (below_step bZ hb)
          clear HO_0; clear HK; clear HB
          have HO_0 := n0_
          have HK := n1_
          have HB := n2_
          clear n0_ n1_ n2_
          (try clear hb)
          (try clear hb2)
          (try clear hk)
          (try clear hi)
          refine hK.out _ _ ⟨HS0_, HS1_, HS2_, HS3_⟩ (fun hHeld => ?_)
          clear hK K
          refine norm_ (a' := ?_) ?_ ?_
          rotate_left
          ·show Act.put _ (some 28) _ = _
           simp only [Act.put, List.setIfInBounds_toArray, List.set_cons_zero, List.set_cons_succ, i64_w, i32_w]
           rfl
          refine done_ (done_of HT_.out (by kernel_rfl)) ?_
          have q17 : (x5_1 : Int) ≤ ((x0_1.length : Int) : Int) := oZ
          obtain ⟨i017, hi017, _, hsz17, _⟩ := info_parts info49
          have hroom17 : x0_1.length ≤ co5 := (Kd.R_reads' HO_0.out).2.1
          have hC17 : Kd.C k49 _ (some ad184) x0_1.length x0_1 := (Kd.R_reads' HO_0.out).2.2
          have q017 : (0 : Int) ≤ (x5_1 : Int) := oZ
          have hcut17 := cut_from (P := Try.prog) 24 49 .i64 Try.underlying24 hi017 2 hsz17 (some ad184) x0_1.length co5 x5_1 q017 q17
          have hr17 := Kd.C_drop (m := (x5_1 : Int).toNat) (c := co5) hC17 (by omega) hroom17
          obtain ⟨A17, hA17⟩ : ∃ A1, A1 = (if co5 = (x5_1 : Int).toNat then (some ad184) else ((some ad184) : Option Addr).map (·.add ((x5_1 : Int).toNat * 2))) := ⟨_, rfl⟩
          obtain ⟨c17, hc17⟩ : ∃ c1, c1 = co5 - (x5_1 : Int).toNat := ⟨_, rfl⟩
          have hy17 : y187.length = x0_1.length - (x5_1 : Int).toNat := (by rw [Ny187.out, List.length_drop] <;> omega)
          rw [show (x0_1).drop (x5_1 : Int).toNat = y187 from Ny187.out.symm] at hr17
          replace hr17 : Kd.C k49 _ A17 y187.length y187 := (by rw [hA17]; exact hr17)
          rw [← hy17, ← hA17, ← hc17] at hcut17
          have HR190 := Aside0.mk hr17
          have HC190 := Aside0.mk (show y187.length ≤ c17 from by rw [hy17, hc17]; exact Nat.sub_le_sub_right hroom17 _)
          clear hr17 hC17 hroom17 hi017 hsz17 hc17
          have KY17 := Aside0.mk hy17
          have KA17 := Aside0.mk hA17
          clear hy17 hA17
          have KL17 := Aside0.mk (show (x5_1 : Int).toNat ≤ x0_1.length from by omega)
          replace q17 := eq_true q17
          try go_wp2
          go_loopg [5, 7] k1 (fun kq v5 v7 w' => ∃ (x0_2 : List (S49)) (x5_2 : Int) (x7_2 : Int), v5 = .int .i64 x5_2 ∧ v7 = .int .i64 x7_2 ∧ Aside0 (slices_CompactFunc_StepS.l1 kq x0_2 x5_2 y187 x7_2 = some r) ∧ Aside0 (kq ≤ k1) ∧ Aside0 (Kd.R k49 49 w' w0.heap.size (fun k_ => (P0_ k_ ∨ w.heap.size ≤ k_)) (.slice (some ad184) x0_1.length co5) x0_2) ∧ Aside0 (Kept w w' (fun k_ => P0_ k_)) ∧ Aside0 (Below w0.heap.size w0 w') ∧ Aside0 (slices_CompactFunc_StepS.TL x0_1 x0_2 x5_1 x5_2 x7_2 y187))
          case atStart => exact ⟨(x0_1), (x5_1), (1), sZ, sZ, H', ⟨Nat.le_refl _⟩, ⟨by (try simp only [hl0_1]); (with_reducible repeat (first | apply Kd.R_alloc | apply Kd.R_drewN | apply Kd.R_drew)); exact HO_0.out⟩, ⟨by repeat (first | (with_reducible first | exact HK.out | apply Kept.alloc | apply Kept.drewN | apply Kept.drew) | exact HK.out)⟩, ⟨bZ⟩, ⟨slices_CompactFunc_StepS.TL.start Ny187.out (by have := KL17.out; first | exact oZ | (have h_ : 0 ≤ x5_1 := by (first | exact of_eq_true (by assumption) | assumption); exact h_))⟩⟩
          case round =>
           clear H'; (try clear c1); (try clear p1); (try clear q1); (try clear hx1); (try clear p2); (try clear c3); (try clear c3b0); (try clear c3b1); (try clear c5); (try clear c6); (try clear c6b0); (try clear p6); (try clear c7); (try clear c7b0); (try clear c9); (try clear c9b0); (try clear c10); (try clear c10b0); (try clear c12); (try clear c13); (try clear c13b0); (try clear c14); (try clear c14b0); (try clear c14b1); (try clear c17); (try clear q17); (try clear hx184_0); (try clear hx184_1); (try clear hx185_0); (try clear hx185_1); (try clear p184); (try clear p185); (try clear p2); (try clear q017); (try clear q17); (try clear q184); (try clear q185)
           obtain ⟨x0_2, x5_2, x7_2, rfl, rfl, HA, HK2, HO_0, HK, HB, HTL⟩ := hrel
           have hl0_2 := (Kd.R_reads' HO_0.out).1
           rw [hl0_2] at HO_0
           (try simp only [hl0_2])
           cases gk with
           | zero => exact absurd HA.out (by simp [slices_CompactFunc_StepS.l1])
           | succ k2 =>
            have H := HA.out
            clear HA
            simp only [slices_CompactFunc_StepS.l1] at H
            by_cases c18 : x7_2 < (y187.length : Int)
            ·rw [if_pos c18] at H
             have c18b0 : decide (x7_2 < (y187.length : Int)) = true := decide_eq_true c18
             clear c18
             by_cases c19 : 0 ≤ x7_2
             ·rw [if_pos c19] at H
              have c19b0 : decide (0 ≤ x7_2) = true := decide_eq_true c19
              clear c19
              obtain ⟨ji20, hji20⟩ : ∃ j_ : Int, (wrap64 (x7_2 - 1)) = j_ := ⟨_, rfl⟩
              replace H : (if 0 ≤ (ji20) then (if (ji20) < (y187.length : Int) then ((impl_trimmedWave_c1.f ((rd_T49 y187 x7_2).f0) ((rd_T49 y187 x7_2).f1) ((rd_T49 y187 (ji20)).f0) ((rd_T49 y187 (ji20)).f1)).bind fun t193 => (if t193 = true then (slices_CompactFunc_StepS.l1 k2 x0_2 x5_2 y187 (wrap64 (x7_2 + 1))) else (if 0 ≤ x5_2 then (if x5_2 < (x0_2.length : Int) then (slices_CompactFunc_StepS.l1 k2 (x0_2.set (x5_2 : Int).toNat (⟨(rd_T49 y187 x7_2).f0, (rd_T49 y187 x7_2).f1⟩ : S49)) (wrap64 (x5_2 + 1)) y187 (wrap64 (x7_2 + 1))) else (none)) else (none)))) else (none)) else (none)) = some r := by first | (rw [hji20] at H; exact H) | (simp only [hji20] at H ⊢; exact H)
              have hji20w : (IntKind.i64.wrap (x7_2 - 1)) = ji20 := (i64_w _).trans hji20
              by_cases c21 : 0 ≤ (ji20)
              ·rw [if_pos c21] at H
               have c21b0 : decide (0 ≤ (ji20)) = true := decide_eq_true c21
               clear c21
               by_cases c22 : (ji20) < (y187.length : Int)
               ·rw [if_pos c22] at H
                have c22b0 : decide ((ji20) < (y187.length : Int)) = true := decide_eq_true c22
                clear c22
                replace H := Option.bind_eq_some_iff.mp H
                obtain ⟨t193, A230, H⟩ := H
                replace H : (if t193 = true then (slices_CompactFunc_StepS.l1 k2 x0_2 x5_2 y187 (wrap64 (x7_2 + 1))) else (if 0 ≤ x5_2 then (if x5_2 < (x0_2.length : Int) then (slices_CompactFunc_StepS.l1 k2 (x0_2.set (x5_2 : Int).toNat (⟨(rd_T49 y187 x7_2).f0, (rd_T49 y187 x7_2).f1⟩ : S49)) (wrap64 (x5_2 + 1)) y187 (wrap64 (x7_2 + 1))) else (none)) else (none))) = some r := H
                have A23 := Aside0.mk A230
                clear A230
                by_cases c24 : t193 = true
                ·subst c24
                 have H1 : (slices_CompactFunc_StepS.l1 k2 x0_2 x5_2 y187 (wrap64 (x7_2 + 1))) = some r := by rw [if_pos rfl] at H; exact H
                 clear H
                 have H := H1
                 clear H1
                 have H' := Aside0.mk H
                 clear H
                 try go_wp2
                 have n0_ := Aside0.mk (Kd.R_drew HO_0.out)
                 have n1_ := Aside0.mk (Kept.drew HK.out)
                 have n2_ := Aside0.mk (below_drew1 HB.out)
                 clear HO_0; clear HK; clear HB
                 have HO_0 := n0_
                 have HK := n1_
                 have HB := n2_
                 clear n0_ n1_ n2_
                 have p191 : 0 ≤ (x7_2 : Int) := oZ
                 have q191 : x7_2 < (y187.length : Int) := oZ
                 have HLn := HTL.out
                 have hji_ : ji20 = x7_2 - 1 := by have := HLn.2.2.2.2.1; have h_ : wrap64 (x7_2 - 1) = ji20 := (by assumption); have hq_ : x7_2 < (y187.length : Int) := q191; have hz_ := (Kd.R_reads' HO_0.out).2.2.2.1; have hl_ := HLn.2.2.2.2.2.1; have h1_ := HLn.1; have hc_ := HLn.2.2.2.2.1; rw [← h_]; unfold wrap64; omega
                 have HRn : Kd.C k49 _ A17 (x0_2.drop (x5_1 : Int).toNat).length (x0_2.drop (x5_1 : Int).toNat) := (by rw [KA17.out]; exact Kd.C_drop (m := (x5_1 : Int).toNat) (c := co5) (Kd.R_reads' HO_0.out).2.2 (by have := KL17.out; have := HLn.1; omega) (Kd.R_reads' HO_0.out).2.1)
                 have hln_ : ((x0_2.drop (x5_1 : Int).toNat).length : Int) = y187.length := by have h6_ := HLn.2.2.2.2.2.1; have h1_ := HLn.1; have h2_ := HLn.2.1; rw [List.length_drop]; omega
                 obtain ⟨ad191, e191, hx191_0, hx191_1⟩ := at_T49 HRn x7_2 p191 (by rw [hln_]; exact q191)
                 rw [HLn.read x7_2 p191 (by omega)] at hx191_0 hx191_1
                 replace p191 := eq_true p191
                 replace q191 := eq_true q191
                 have p192 : 0 ≤ ((ji20) : Int) := oZ
                 have q192 : (ji20) < (y187.length : Int) := oZ
                 obtain ⟨ad192, e192, hx192_0, hx192_1⟩ := at_T49 HRn (ji20) p192 (by rw [hln_]; exact q192)
                 rw [HLn.read ji20 p192 (by omega)] at hx192_0 hx192_1
                 obtain rfl : ad191 = ad192 := (by rw [e191] at e192; injection e192)
                 clear hji_ hln_ HRn HLn e192
                 cases e191
                 replace p192 := eq_true p192
                 replace q192 := eq_true q192
                 refine start_ (n := 12) (S := fun w' => w'.cell? (ad191.add ((x7_2).toNat * 2)) = some (.int .i64 ((rd_T49 y187 x7_2).f0)) ∧ w'.cell? ⟨(ad191.add ((x7_2).toNat * 2)).block, (ad191.add ((x7_2).toNat * 2)).off + 1, none⟩ = some (.int .i64 ((rd_T49 y187 x7_2).f1)) ∧ w'.cell? (ad191.add (((ji20)).toNat * 2)) = some (.int .i64 ((rd_T49 y187 (ji20)).f0)) ∧ w'.cell? ⟨(ad191.add (((ji20)).toNat * 2)).block, (ad191.add (((ji20)).toNat * 2)).off + 1, none⟩ = some (.int .i64 ((rd_T49 y187 (ji20)).f1))) (ds := []) #[false, false, false, false, false, false, false, false, false, false, false, false] (by kernel_rfl) rfl rfl ⟨hx191_0, hx191_1, hx192_0, hx192_1⟩ (fun hHeld => ?_); refine with_tabW slices_CompactFunc_StepS.tab11 slices_CompactFunc_StepS.bits11 (fun HT_ HW_ => ?_)
                 generalize wr.drew = w25 at HO_0 HK HB hx191_0 hx191_1 hx192_0 hx192_1 hHeld ⊢
                 refine puZ 0 (some 38) #[true, false, false, false, false, false, false, false, false, false, false, false] rfl rfl HT_.out ?_
                 refine puZ 1 (some 39) #[true, true, false, false, false, false, false, false, false, false, false, false] rfl rfl HT_.out ?_
                 refine puZ 2 (some 40) #[true, true, true, false, false, false, false, false, false, false, false, false] rfl rfl HT_.out ?_
                 refine puZ 3 (some 41) #[true, true, true, true, false, false, false, false, false, false, false, false] rfl rfl HT_.out ?_
                 refine puZ 5 (some 43) #[true, true, true, true, false, true, false, false, false, false, false, false] rfl rfl HT_.out ?_
                 refine puZ 6 (some 44) #[true, true, true, true, false, true, true, false, false, false, false, false] rfl rfl HT_.out ?_
                 refine puZ 7 (some 45) #[true, true, true, true, false, true, true, true, false, false, false, false] rfl rfl HT_.out ?_
                 refine puZ 8 (some 46) #[true, true, true, true, false, true, true, true, true, false, false, false] rfl rfl HT_.out ?_
                 refine take_ (i := 4) (N := some 42) (v := ?_) (a' := ?_) #[true, true, true, true, true, true, true, true, true, false, false, false] rfl rfl (take_ofW HT_.out HW_.out (by kernel_rfl)) (fun _ _ _ h => h) (Or.inl ⟨by rfl, ?_⟩) hHeld ?_ ?_
                 rotate_left
                 ·rintro w' ⟨s0, s1, s2, s3⟩
                  go_simp
                  with_reducible rfl
                 rotate_left
                 ·simp only [Act.put, List.setIfInBounds_toArray, List.set_cons_zero, List.set_cons_succ, i64_w, i32_w]
                  rfl
                 refine take_ (i := 9) (N := some 47) (v := ?_) (a' := ?_) #[true, true, true, true, true, true, true, true, true, true, false, false] rfl rfl (take_ofW HT_.out HW_.out (by kernel_rfl)) (fun _ _ _ h => h) (Or.inl ⟨by rfl, ?_⟩) hHeld ?_ ?_
                 rotate_left
                 ·rintro w' ⟨s0, s1, s2, s3⟩
                  go_simp
                  with_reducible rfl
                 rotate_left
                 ·simp only [Act.put, List.setIfInBounds_toArray, List.set_cons_zero, List.set_cons_succ, i64_w, i32_w]
                  rfl
                 refine one_ (i := 10) (N := some 48) #[true, true, true, true, true, true, true, true, true, true, true, false] rfl rfl (one_of HT_.out (by kernel_rfl)) (by decide) (fun K hK => ?_)
                 refine goesV_ Try.func57 (by kernel_rfl) rfl #[.agg #[.int .i64 ((rd_T49 y187 x7_2).f0), .int .i64 ((rd_T49 y187 x7_2).f1)], .agg #[.int .i64 ((rd_T49 y187 (ji20)).f0), .int .i64 ((rd_T49 y187 (ji20)).f1)]] (by rfl) rfl rfl (by rfl) (by (try simp only [List.map_toArray, List.map_cons, List.map_nil]); first | done | (simp only [hji20]; rfl) | rfl | (simp only [List.length_drop, List.length_take]; rfl)) ?_
                 with_reducible refine (impl_trimmedWave_c1.calls ((rd_T49 y187 x7_2).f0) ((rd_T49 y187 x7_2).f1) ((rd_T49 y187 (ji20)).f0) ((rd_T49 y187 (ji20)).f1) true _ A23.out).mono ?_
                 rintro e w26 ⟨rfl, hb⟩
                 have HS0_ := (hb.cell (World.block_lt_of_cell? _ _ (hHeld.1))).trans (hHeld.1)
                 have HS1_ := (hb.cell (World.block_lt_of_cell? _ _ (hHeld.2.1))).trans (hHeld.2.1)
                 have HS2_ := (hb.cell (World.block_lt_of_cell? _ _ (hHeld.2.2.1))).trans (hHeld.2.2.1)
                 have HS3_ := (hb.cell (World.block_lt_of_cell? _ _ (hHeld.2.2.2))).trans (hHeld.2.2.2)
                 refine ⟨_, rfl, ?_⟩
                 have n0_ := Aside0.mk (Kd.R_below (Kd.rZ HO_0.out) hb)
                 have n1_ := Aside0.mk (Kept.below (S := (fun k_ => P0_ k_)) (by repeat (first | (with_reducible first | exact HK.out | apply Kept.alloc | apply Kept.drewN | apply Kept.drew) | exact HK.out)) hb)
                 have n2_ := Aside0.mk (below_step bZ hb)
                 clear HO_0; clear HK; clear HB
                 have HO_0 := n0_
                 have HK := n1_
                 have HB := n2_
                 clear n0_ n1_ n2_
                 (try clear hb)
                 (try clear hb2)
                 (try clear hk)
                 (try clear hi)
                 refine hK.out _ _ ⟨HS0_, HS1_, HS2_, HS3_⟩ (fun hHeld => ?_)
                 clear hK K
                 refine norm_ (a' := ?_) ?_ ?_
                 rotate_left
                 ·show Act.put _ (some 48) _ = _
                  simp only [Act.put, List.setIfInBounds_toArray, List.set_cons_zero, List.set_cons_succ, i64_w, i32_w]
                  rfl
                 refine puZ 11 (some 49) #[true, true, true, true, true, true, true, true, true, true, true, true] rfl rfl HT_.out ?_
                 refine done_ (done_of HT_.out (by kernel_rfl)) ?_
                 try go_wp2
                 (try simp only [← hl0_2])
                 go_roundg k2
                 case measure => have := HK1.out; have := HK2.out; omega
                 case rel => exact ⟨(x0_2), (x5_2), (wrap64 (x7_2 + 1)), sZ, sZ, H', ⟨by have := HK1.out; have := HK2.out; omega⟩, ⟨by (try simp only [hl0_1]); (try simp only [hl0_2]); (with_reducible repeat (first | apply Kd.R_alloc | apply Kd.R_drewN | apply Kd.R_drew)); exact HO_0.out⟩, ⟨by repeat (first | (with_reducible first | exact HK.out | apply Kept.alloc | apply Kept.drewN | apply Kept.drew) | exact HK.out)⟩, ⟨bZ⟩, ⟨HTL.out.skip (by have h_ : x7_2 < (y187.length : Int) := oZ; have hz_ := (Kd.R_reads' HO_0.out).2.2.2.1; have h1_ := HTL.out.1; have h2_ := HTL.out.2.2.2.2.2.1; omega)⟩⟩
                ·replace c24 := Bool.eq_false_iff.mpr c24
                 subst c24
                 have H1 : (if 0 ≤ x5_2 then (if x5_2 < (x0_2.length : Int) then (slices_CompactFunc_StepS.l1 k2 (x0_2.set (x5_2 : Int).toNat (⟨(rd_T49 y187 x7_2).f0, (rd_T49 y187 x7_2).f1⟩ : S49)) (wrap64 (x5_2 + 1)) y187 (wrap64 (x7_2 + 1))) else (none)) else (none)) = some r := by rw [if_neg (show ¬ (false = true) by decide)] at H; exact H
                 clear H
                 have H := H1
                 clear H1
                 by_cases c27 : 0 ≤ x5_2
                 ·rw [if_pos c27] at H
                  have c27b0 : decide (0 ≤ x5_2) = true := decide_eq_true c27
                  clear c27
                  by_cases c28 : x5_2 < (x0_2.length : Int)
                  ·rw [if_pos c28] at H
                   have c28b0 : decide (x5_2 < (x0_2.length : Int)) = true := decide_eq_true c28
                   clear c28
                   obtain ⟨y195, hy195⟩ : ∃ y_ : List (S49), y_ = (x0_2.set (x5_2 : Int).toNat (⟨(rd_T49 y187 x7_2).f0, (rd_T49 y187 x7_2).f1⟩ : S49)) := ⟨_, rfl⟩
                   replace H : (slices_CompactFunc_StepS.l1 k2 y195 (wrap64 (x5_2 + 1)) y187 (wrap64 (x7_2 + 1))) = some r := by first | (rw [hy195]; with_reducible exact H) | (have H2_ := (Option.bind_some _ _).symm.trans H; rw [hy195]; with_reducible exact H2_) | (have H2_ := (Option.bind_some _ _).symm.trans H; with_reducible exact H2_) | with_reducible exact H | (rw [hy195]; exact H) | exact H
                   have Ny195 := Aside0.mk hy195
                   clear hy195
                   have H' := Aside0.mk H
                   clear H
                   try go_wp2
                   have n0_ := Aside0.mk (Kd.R_drew HO_0.out)
                   have n1_ := Aside0.mk (Kept.drew HK.out)
                   have n2_ := Aside0.mk (below_drew1 HB.out)
                   clear HO_0; clear HK; clear HB
                   have HO_0 := n0_
                   have HK := n1_
                   have HB := n2_
                   clear n0_ n1_ n2_
                   have p191 : 0 ≤ (x7_2 : Int) := oZ
                   have q191 : x7_2 < (y187.length : Int) := oZ
                   have HLn := HTL.out
                   have hji_ : ji20 = x7_2 - 1 := by have := HLn.2.2.2.2.1; have h_ : wrap64 (x7_2 - 1) = ji20 := (by assumption); have hq_ : x7_2 < (y187.length : Int) := q191; have hz_ := (Kd.R_reads' HO_0.out).2.2.2.1; have hl_ := HLn.2.2.2.2.2.1; have h1_ := HLn.1; have hc_ := HLn.2.2.2.2.1; rw [← h_]; unfold wrap64; omega
                   have HRn : Kd.C k49 _ A17 (x0_2.drop (x5_1 : Int).toNat).length (x0_2.drop (x5_1 : Int).toNat) := (by rw [KA17.out]; exact Kd.C_drop (m := (x5_1 : Int).toNat) (c := co5) (Kd.R_reads' HO_0.out).2.2 (by have := KL17.out; have := HLn.1; omega) (Kd.R_reads' HO_0.out).2.1)
                   have hln_ : ((x0_2.drop (x5_1 : Int).toNat).length : Int) = y187.length := by have h6_ := HLn.2.2.2.2.2.1; have h1_ := HLn.1; have h2_ := HLn.2.1; rw [List.length_drop]; omega
                   obtain ⟨ad191, e191, hx191_0, hx191_1⟩ := at_T49 HRn x7_2 p191 (by rw [hln_]; exact q191)
                   rw [HLn.read x7_2 p191 (by omega)] at hx191_0 hx191_1
                   replace p191 := eq_true p191
                   replace q191 := eq_true q191
                   have p192 : 0 ≤ ((ji20) : Int) := oZ
                   have q192 : (ji20) < (y187.length : Int) := oZ
                   obtain ⟨ad192, e192, hx192_0, hx192_1⟩ := at_T49 HRn (ji20) p192 (by rw [hln_]; exact q192)
                   rw [HLn.read ji20 p192 (by omega)] at hx192_0 hx192_1
                   obtain rfl : ad191 = ad192 := (by rw [e191] at e192; injection e192)
                   clear hji_ hln_ HRn HLn e192
                   cases e191
                   replace p192 := eq_true p192
                   replace q192 := eq_true q192
                   refine start_ (n := 12) (S := fun w' => w'.cell? (ad191.add ((x7_2).toNat * 2)) = some (.int .i64 ((rd_T49 y187 x7_2).f0)) ∧ w'.cell? ⟨(ad191.add ((x7_2).toNat * 2)).block, (ad191.add ((x7_2).toNat * 2)).off + 1, none⟩ = some (.int .i64 ((rd_T49 y187 x7_2).f1)) ∧ w'.cell? (ad191.add (((ji20)).toNat * 2)) = some (.int .i64 ((rd_T49 y187 (ji20)).f0)) ∧ w'.cell? ⟨(ad191.add (((ji20)).toNat * 2)).block, (ad191.add (((ji20)).toNat * 2)).off + 1, none⟩ = some (.int .i64 ((rd_T49 y187 (ji20)).f1))) (ds := []) #[false, false, false, false, false, false, false, false, false, false, false, false] (by kernel_rfl) rfl rfl ⟨hx191_0, hx191_1, hx192_0, hx192_1⟩ (fun hHeld => ?_); refine with_tabW slices_CompactFunc_StepS.tab11 slices_CompactFunc_StepS.bits11 (fun HT_ HW_ => ?_)
                   generalize wr.drew = w30 at HO_0 HK HB hx191_0 hx191_1 hx192_0 hx192_1 hHeld ⊢
                   refine puZ 0 (some 38) #[true, false, false, false, false, false, false, false, false, false, false, false] rfl rfl HT_.out ?_
                   refine puZ 1 (some 39) #[true, true, false, false, false, false, false, false, false, false, false, false] rfl rfl HT_.out ?_
                   refine puZ 2 (some 40) #[true, true, true, false, false, false, false, false, false, false, false, false] rfl rfl HT_.out ?_
                   refine puZ 3 (some 41) #[true, true, true, true, false, false, false, false, false, false, false, false] rfl rfl HT_.out ?_
                   refine puZ 5 (some 43) #[true, true, true, true, false, true, false, false, false, false, false, false] rfl rfl HT_.out ?_
                   refine puZ 6 (some 44) #[true, true, true, true, false, true, true, false, false, false, false, false] rfl rfl HT_.out ?_
                   refine puZ 7 (some 45) #[true, true, true, true, false, true, true, true, false, false, false, false] rfl rfl HT_.out ?_
                   refine puZ 8 (some 46) #[true, true, true, true, false, true, true, true, true, false, false, false] rfl rfl HT_.out ?_
                   refine take_ (i := 4) (N := some 42) (v := ?_) (a' := ?_) #[true, true, true, true, true, true, true, true, true, false, false, false] rfl rfl (take_ofW HT_.out HW_.out (by kernel_rfl)) (fun _ _ _ h => h) (Or.inl ⟨by rfl, ?_⟩) hHeld ?_ ?_
                   rotate_left
                   ·rintro w' ⟨s0, s1, s2, s3⟩
                    go_simp
                    with_reducible rfl
                   rotate_left
                   ·simp only [Act.put, List.setIfInBounds_toArray, List.set_cons_zero, List.set_cons_succ, i64_w, i32_w]
                    rfl
                   refine take_ (i := 9) (N := some 47) (v := ?_) (a' := ?_) #[true, true, true, true, true, true, true, true, true, true, false, false] rfl rfl (take_ofW HT_.out HW_.out (by kernel_rfl)) (fun _ _ _ h => h) (Or.inl ⟨by rfl, ?_⟩) hHeld ?_ ?_
                   rotate_left
                   ·rintro w' ⟨s0, s1, s2, s3⟩
                    go_simp
                    with_reducible rfl
                   rotate_left
                   ·simp only [Act.put, List.setIfInBounds_toArray, List.set_cons_zero, List.set_cons_succ, i64_w, i32_w]
                    rfl
                   refine one_ (i := 10) (N := some 48) #[true, true, true, true, true, true, true, true, true, true, true, false] rfl rfl (one_of HT_.out (by kernel_rfl)) (by decide) (fun K hK => ?_)
                   refine goesV_ Try.func57 (by kernel_rfl) rfl #[.agg #[.int .i64 ((rd_T49 y187 x7_2).f0), .int .i64 ((rd_T49 y187 x7_2).f1)], .agg #[.int .i64 ((rd_T49 y187 (ji20)).f0), .int .i64 ((rd_T49 y187 (ji20)).f1)]] (by rfl) rfl rfl (by rfl) (by (try simp only [List.map_toArray, List.map_cons, List.map_nil]); first | done | (simp only [hji20]; rfl) | rfl | (simp only [List.length_drop, List.length_take]; rfl)) ?_
                   with_reducible refine (impl_trimmedWave_c1.calls ((rd_T49 y187 x7_2).f0) ((rd_T49 y187 x7_2).f1) ((rd_T49 y187 (ji20)).f0) ((rd_T49 y187 (ji20)).f1) false _ A23.out).mono ?_
                   rintro e w31 ⟨rfl, hb⟩
                   have HS0_ := (hb.cell (World.block_lt_of_cell? _ _ (hHeld.1))).trans (hHeld.1)
                   have HS1_ := (hb.cell (World.block_lt_of_cell? _ _ (hHeld.2.1))).trans (hHeld.2.1)
                   have HS2_ := (hb.cell (World.block_lt_of_cell? _ _ (hHeld.2.2.1))).trans (hHeld.2.2.1)
                   have HS3_ := (hb.cell (World.block_lt_of_cell? _ _ (hHeld.2.2.2))).trans (hHeld.2.2.2)
                   refine ⟨_, rfl, ?_⟩
                   have n0_ := Aside0.mk (Kd.R_below (Kd.rZ HO_0.out) hb)
                   have n1_ := Aside0.mk (Kept.below (S := (fun k_ => P0_ k_)) (by repeat (first | (with_reducible first | exact HK.out | apply Kept.alloc | apply Kept.drewN | apply Kept.drew) | exact HK.out)) hb)
                   have n2_ := Aside0.mk (below_step bZ hb)
                   clear HO_0; clear HK; clear HB
                   have HO_0 := n0_
                   have HK := n1_
                   have HB := n2_
                   clear n0_ n1_ n2_
                   (try clear hb)
                   (try clear hb2)
                   (try clear hk)
                   (try clear hi)
                   refine hK.out _ _ ⟨HS0_, HS1_, HS2_, HS3_⟩ (fun hHeld => ?_)
                   clear hK K
                   refine norm_ (a' := ?_) ?_ ?_
                   rotate_left
                   ·show Act.put _ (some 48) _ = _
                    simp only [Act.put, List.setIfInBounds_toArray, List.set_cons_zero, List.set_cons_succ, i64_w, i32_w]
                    rfl
                   refine puZ 11 (some 49) #[true, true, true, true, true, true, true, true, true, true, true, true] rfl rfl HT_.out ?_
                   refine done_ (done_of HT_.out (by kernel_rfl)) ?_
                   have p194 : 0 ≤ (x7_2 : Int) := oZ
                   have q194 : x7_2 < (y187.length : Int) := oZ
                   have hx194_0 := hHeld.1
                   have hx194_1 := hHeld.2.1
                   replace p194 := eq_true p194
                   replace q194 := eq_true q194
                   have p29 : 0 ≤ (x5_2 : Int) := oZ
                   have q29 : (x5_2 : Int) < ((x0_2.length : Int) : Int) := oZ
                   obtain ⟨go29, co29, eo29, gb29, gl29, cl29, HG29⟩ := Kd.R_form HO_0.out (by omega)
                   (first | cases eo29 | (injection eo29 with ea_ en_ ec_; (first | subst ea_ | (injection ea_ with ea_; subst ea_)); subst ec_; clear en_))
                   have GB29 := Aside0.mk gb29
                   have GG29 := Aside0.mk HG29
                   clear gb29 gl29 HG29
                   have HMgo29 := Aside0.mk (show (P0_ go29 ∨ w.heap.size ≤ go29) from (HO_0.out.1 _ rfl))
                   (first | simp only [add_plain] at hx184_0 | skip)
                   (first | simp only [add_plain] at hx184_1 | skip)
                   (first | simp only [add_plain] at hx185_0 | skip)
                   (first | simp only [add_plain] at hx185_1 | skip)
                   obtain ⟨ce29, hcl29, hM29, hcc29, hfr29⟩ := Kd.R_elem HO_0.out z49 (x5_2 : Int) p29 q29
                   obtain rfl := k49_openM hM29
                   have hx29_0 : w31.cell? ⟨go29, (x5_2 : Int).toNat * 2, none⟩ = some (.int .i64 ((rd_T49 x0_2 x5_2).f0)) := hcc29 0 _ rfl
                   have hx29_1 : w31.cell? ⟨go29, (x5_2 : Int).toNat * 2 + 1, none⟩ = some (.int .i64 ((rd_T49 x0_2 x5_2).f1)) := hcc29 1 _ rfl
                   have hf29_0 : w31.frozen? ⟨go29, (x5_2 : Int).toNat * 2, none⟩ = false := hfr29 0
                   have hf29_1 : w31.frozen? ⟨go29, (x5_2 : Int).toNat * 2 + 1, none⟩ = false := hfr29 1
                   clear hcl29 hcc29 hfr29; (try clear hM29)
                   replace p29 := eq_true p29
                   replace q29 := eq_true q29
                   have HX32 := Aside0.mk (show Kd.R k49 49 w31 w0.heap.size (fun k_ => (P0_ k_ ∨ w.heap.size ≤ k_)) (.slice (some ⟨go29, 0, none⟩) x0_2.length co5) x0_2 from (Kd.rZ HO_0.out))
                   obtain ⟨ce32, hcl32, hM32, hcc32, hfr32⟩ := Kd.R_elem HX32.out z49 (x5_2 : Int) oZ (by have h_ : (x5_2 : Int) < ((x0_2.length : Int) : Int) := oZ; first | exact h_ | (have e_ := (Kd.R_reads' HO_0.out).1; omega) | simpa using h_)
                   obtain rfl := k49_openM hM32
                   have HP32 := Kd.R_seg HX32.out (x5_2 : Int) oZ (by have h_ : (x5_2 : Int) < ((x0_2.length : Int) : Int) := oZ; first | exact h_ | (have e_ := (Kd.R_reads' HO_0.out).1; omega) | simpa using h_) (seg := [.int .i64 ((rd_T49 y187 x7_2).f0), .int .i64 ((rd_T49 y187 x7_2).f1)]) (j := 0) hcl32 hcc32 (show 2 ≤ 2 from by decide) (x' := (⟨(rd_T49 y187 x7_2).f0, (rd_T49 y187 x7_2).f1⟩ : S49)) (k49_mkM _ _ _ (⟨(rd_T49 y187 x7_2).f0, (rd_T49 y187 x7_2).f1⟩ : S49) ) (fun _ hk => hk)
                   have hx32_0 := hcc32 0 _ rfl
                   (try simp only [show (k49).sz = 2 from rfl, Nat.mul_one, Nat.add_zero] at hx32_0)
                   have hf32_0 := hfr32 0
                   (try simp only [show (k49).sz = 2 from rfl, Nat.mul_one, Nat.add_zero] at hf32_0)
                   have hx32_1 := hcc32 1 _ rfl
                   (try simp only [show (k49).sz = 2 from rfl, Nat.mul_one, Nat.add_zero] at hx32_1)
                   have hf32_1 := hfr32 1
                   (try simp only [show (k49).sz = 2 from rfl, Nat.mul_one, Nat.add_zero] at hf32_1)
                   clear hcl32 hcc32 hfr32; (try clear hM32)
                   try go_wp2_with (first | ((with_reducible refine gate_store (t := 49) (p := 56) rfl ?_); refine store_event (t := 49) (p := 56) (v := ?vo_w33) (w1 := ((w31.setCell ⟨go29, (x5_2 : Int).toNat * 2, none⟩ (.int .i64 ((rd_T49 y187 x7_2).f0))).setCell ⟨go29, (x5_2 : Int).toNat * 2 + 1, none⟩ (.int .i64 ((rd_T49 y187 x7_2).f1)))) ?hg ?ho ?hn ?hr ?_; (case ho => rfl); (case hg => rfl); (case hn => rfl); (case hr => first | (go_simp; done) | (go_simp; rfl)); intro w33 hw; have hg : w31.grownBy w33 (some go29) := (by rw [hw]; exact HP32.2); have hp_ : Kd.R k49 49 w33 w0.heap.size (fun k_ => (P0_ k_ ∨ w.heap.size ≤ k_)) (.slice (some ⟨go29, 0, none⟩) x0_2.length co5) y195 := (by rw [hw, Ny195.out]; exact HP32.1); clear HP32; have n0_ := Aside0.mk (hp_); have n1_ := Aside0.mk ((by rw [hw]; exact below_set (below_set (HB.out) GB29.out) GB29.out : Below w0.heap.size w0 w33)); have n2_ := Aside0.mk (Kept.of_grown (S := (fun k_ => P0_ k_)) hg (by repeat (first | (with_reducible first | exact HK.out | apply Kept.alloc | apply Kept.drewN | apply Kept.drew) | exact HK.out)) (fun k_ e_ => (HO_0.out.1 k_ e_))); clear HO_0; clear HB; clear HK; have HO_0 := n0_; have HB := n1_; have HK := n2_; clear n0_ n1_ n2_; clear hg hw hp_))
                   (try simp only [← hl0_2])
                   go_roundg k2
                   case measure => have := HK1.out; have := HK2.out; omega
                   case rel => exact ⟨(y195), (wrap64 (x5_2 + 1)), (wrap64 (x7_2 + 1)), sZ, sZ, H', ⟨by have := HK1.out; have := HK2.out; omega⟩, ⟨by (try simp only [hl0_1]); (try simp only [hl0_2]); (with_reducible repeat (first | apply Kd.R_alloc | apply Kd.R_drewN | apply Kd.R_drew)); exact HO_0.out⟩, ⟨by repeat (first | (with_reducible first | exact HK.out | apply Kept.alloc | apply Kept.drewN | apply Kept.drew) | exact HK.out)⟩, ⟨bZ⟩, ⟨by rw [Ny195.out]; exact HTL.out.store _ (by have hl2_ : y195.length = x0_2.length := by {rw [Ny195.out, List.length_set]}; have h_ : x7_2 < (y187.length : Int) := oZ; have hz_ := (Kd.R_reads' HO_0.out).2.2.2.1; have h1_ := HTL.out.1; have h2_ := HTL.out.2.2.2.2.2.1; omega) (by have hl2_ : y195.length = x0_2.length := by {rw [Ny195.out, List.length_set]}; have h_ : x5_2 < (x0_2.length : Int) := oZ; have hz_ := (Kd.R_reads' HO_0.out).2.2.2.1; have h1_ := HTL.out.1; have h2_ := HTL.out.2.2.2.2.2.1; omega)⟩⟩
                  ·rw [if_neg c28] at H
                   exact absurd H (by simp)
                 ·rw [if_neg c27] at H
                  exact absurd H (by simp)
               ·rw [if_neg c22] at H
                exact absurd H (by simp)
              ·rw [if_neg c21] at H
               exact absurd H (by simp)
             ·rw [if_neg c19] at H
              exact absurd H (by simp)
            ·rw [if_neg c18] at H
             have c18b0 : decide (x7_2 < (y187.length : Int)) = false := decide_eq_false c18
             clear c18
             by_cases c34 : 0 ≤ x5_2
             ·rw [if_pos c34] at H
              have c34b0 := eq_true c34
              have c34b1 : decide (0 ≤ x5_2) = true := decide_eq_true c34
              clear c34
              by_cases c35 : x5_2 ≤ (x0_2.length : Int)
              ·rw [if_pos c35] at H
               have c35b0 := eq_true c35
               have c35b1 : decide (x5_2 ≤ (x0_2.length : Int)) = true := decide_eq_true c35
               clear c35
               obtain ⟨y196, hy196⟩ : ∃ y_ : List (S49), y_ = (x0_2.drop (x5_2 : Int).toNat) := ⟨_, rfl⟩
               replace H : (some ((x0_2.take (x5_2 : Int).toNat ++ List.replicate (x0_2.length - (x5_2 : Int).toNat) z49).take (x5_2 : Int).toNat)) = some r := by first | (rw [hy196]; with_reducible exact H) | (have H2_ := (Option.bind_some _ _).symm.trans H; rw [hy196]; with_reducible exact H2_) | (have H2_ := (Option.bind_some _ _).symm.trans H; with_reducible exact H2_) | with_reducible exact H | (rw [hy196]; exact H) | exact H
               have Ny196 := Aside0.mk hy196
               clear hy196
               obtain ⟨y200, hy200⟩ : ∃ y_ : List (S49), y_ = (x0_2.take (x5_2 : Int).toNat ++ List.replicate (x0_2.length - (x5_2 : Int).toNat) z49) := ⟨_, rfl⟩
               replace H : (some (y200.take (x5_2 : Int).toNat)) = some r := by first | (rw [hy200]; with_reducible exact H) | (have H2_ := (Option.bind_some _ _).symm.trans H; rw [hy200]; with_reducible exact H2_) | (have H2_ := (Option.bind_some _ _).symm.trans H; with_reducible exact H2_) | with_reducible exact H | (rw [hy200]; exact H) | exact H
               have Ny200 := Aside0.mk hy200
               clear hy200
               have c36b0 := eq_true (oZ : x5_2 ≤ (x0_2.length : Int))
               obtain ⟨y201, hy201⟩ : ∃ y_ : List (S49), y_ = (y200.take (x5_2 : Int).toNat) := ⟨_, rfl⟩
               replace H : (some y201) = some r := by first | (rw [hy201]; with_reducible exact H) | (have H2_ := (Option.bind_some _ _).symm.trans H; rw [hy201]; with_reducible exact H2_) | (have H2_ := (Option.bind_some _ _).symm.trans H; with_reducible exact H2_) | with_reducible exact H | (rw [hy201]; exact H) | exact H
               have Ny201 := Aside0.mk hy201
               clear hy201
               obtain rfl := Option.some.inj H
               have q37 : (x5_2 : Int) ≤ ((x0_2.length : Int) : Int) := oZ
               obtain ⟨i037, hi037, _, hsz37, _⟩ := info_parts info49
               have hroom37 : x0_2.length ≤ co5 := (Kd.R_reads' HO_0.out).2.1
               have hC37 : Kd.C k49 _ (some ad184) x0_2.length x0_2 := (Kd.R_reads' HO_0.out).2.2
               have q037 : (0 : Int) ≤ (x5_2 : Int) := oZ
               have hcut37 := cut_from (P := Try.prog) 24 49 .i64 Try.underlying24 hi037 2 hsz37 (some ad184) x0_2.length co5 x5_2 q037 q37
               have hr37 := Kd.C_drop (m := (x5_2 : Int).toNat) (c := co5) hC37 (by omega) hroom37
               obtain ⟨A37, hA37⟩ : ∃ A1, A1 = (if co5 = (x5_2 : Int).toNat then (some ad184) else ((some ad184) : Option Addr).map (·.add ((x5_2 : Int).toNat * 2))) := ⟨_, rfl⟩
               obtain ⟨c37, hc37⟩ : ∃ c1, c1 = co5 - (x5_2 : Int).toNat := ⟨_, rfl⟩
               have hy37 : y196.length = x0_2.length - (x5_2 : Int).toNat := (by rw [Ny196.out, List.length_drop] <;> omega)
               rw [show (x0_2).drop (x5_2 : Int).toNat = y196 from Ny196.out.symm] at hr37
               replace hr37 : Kd.C k49 _ A37 y196.length y196 := (by rw [hA37]; exact hr37)
               rw [← hy37, ← hA37, ← hc37] at hcut37
               have HR199 := Aside0.mk hr37
               have HC199 := Aside0.mk (show y196.length ≤ c37 from by rw [hy37, hc37]; exact Nat.sub_le_sub_right hroom37 _)
               clear hr37 hC37 hroom37 hi037 hsz37 hc37
               have KY37 := Aside0.mk hy37
               have KA37 := Aside0.mk hA37
               clear hy37 hA37
               have KL37 := Aside0.mk (show (x5_2 : Int).toNat ≤ x0_2.length from by omega)
               replace q37 := eq_true q37
               go_wp2_with (first | ((with_reducible refine gate_builtin (b := .clear) (xs := #[.tmp 61]) rfl ?_); have hj_ : 0 ≤ (x5_2 : Int) := oZ; have hl_ : (x5_2 : Int) ≤ ((x0_2.length : Int) : Int) := oZ; have hn0_ := (Kd.R_reads' HO_0.out).1; refine Kd.R_clear k49 (w0 := w0) w0.heap.size rfl (.tmp 61) 24 49 rfl Try.underlying24 (.agg #[(.int .i64 0), (.int .i64 0)]) info49 rfl (by decide) (by decide) z49 (fun _ _ => k49_mkM _ _ _ z49) (A0 := (some ad184)) (n := x0_2.length) (c := co5) (k := (x5_2 : Int).toNat) rfl ?hA ?hm (Kd.rZ HO_0.out) ?hk bZ bsZ ?_; (case hA => exact KA37.out); (case hm => exact KY37.out); (case hk => omega); intro w38 ho hb hg; have hy_ : (x0_2.take (x5_2 : Int).toNat ++ List.replicate (x0_2.length - (x5_2 : Int).toNat) z49) = y200 := (by first | exact Ny200.out.symm | (rw [Ny200.out]; first | rfl | (rw [← hn0_]))); rw [hy_] at ho; clear hj_ hl_ hn0_ hy_; have n0_ := Aside0.mk (ho); have n1_ := Aside0.mk (hb); have n2_ := Aside0.mk (Kept.of_grown (S := (fun k_ => P0_ k_)) hg (by repeat (first | (with_reducible first | exact HK.out | apply Kept.alloc | apply Kept.drewN | apply Kept.drew) | exact HK.out)) (fun k_ e_ => (HO_0.out.1 k_ e_))); clear HO_0; clear HB; clear HK; have HO_0 := n0_; have HB := n1_; have HK := n2_; clear n0_ n1_ n2_; clear ho hb hg; have q39 : (x5_2 : Int) ≤ ((x0_2.length : Int) : Int) := oZ; obtain ⟨i039, hi039, _, hsz39, _⟩ := info_parts info49; have hcut39 := cut_to (P := Try.prog) 24 49 .i64 Try.underlying24 hi039 (some ad184) x0_2.length co5 x5_2 oZ q39 (Kd.R_reads' HO_0.out).2.1; have hr39 := Kd.R_take (m := (x5_2 : Int).toNat) HO_0.out (by have e_ := (Kd.R_reads' HO_0.out).1; omega); have hy39 : y201.length = (x5_2 : Int).toNat := (by have e_ := (Kd.R_reads' HO_0.out).1; rw [Ny201.out, List.length_take]; omega); rw [← Ny201.out] at hr39; rw [← hy39] at hr39 hcut39; clear hy39 hi039 hsz39 HO_0; have HO203 := Aside0.mk hr39; clear hr39; replace q39 := eq_true q39))
               go_ret
               exact ⟨_, by first | rfl | (simp [errW_none, errW_some] <;> rfl) | (simp only [← hji8]; first | rfl | (simp [errW_none, errW_some] <;> rfl)) | (simp [*, errW_none, errW_some] <;> rfl), Kd.rZ HO203.out, bZ, by repeat (first | (with_reducible first | exact HK.out | apply Kept.alloc | apply Kept.drewN | apply Kept.drew) | exact HK.out)⟩
              ·rw [if_neg c35] at H
               exact absurd H (by simp)
             ·rw [if_neg c34] at H
              exact absurd H (by simp)
         ·rw [if_neg c14] at H
          exact absurd H (by simp)
        ·replace c12 := Bool.eq_false_iff.mpr c12
         subst c12
         have H1 : (slices_CompactFunc_StepS.l0 k1 x0_1 (wrap64 (x5_1 + 1))) = some r := by rw [if_neg (show ¬ (false = true) by decide)] at H; exact H
         clear H
         have H := H1
         clear H1
         have H' := Aside0.mk H
         clear H
         try go_wp2
         have n0_ := Aside0.mk (Kd.R_drew HO_0.out)
         have n1_ := Aside0.mk (Kept.drew HK.out)
         have n2_ := Aside0.mk (below_drew1 HB.out)
         clear HO_0; clear HK; clear HB
         have HO_0 := n0_
         have HK := n1_
         have HB := n2_
         clear n0_ n1_ n2_
         have p184 : 0 ≤ (x5_1 : Int) := oZ
         have q184 : x5_1 < (x0_1.length : Int) := oZ
         obtain ⟨ad184, e184, hx184_0, hx184_1⟩ := at_T49 (Kd.R_reads' HO_0.out).2.2 x5_1 p184 q184
         cases e184
         replace p184 := eq_true p184
         replace q184 := eq_true q184
         have p185 : 0 ≤ ((ji8) : Int) := oZ
         have q185 : (ji8) < (x0_1.length : Int) := oZ
         obtain ⟨ad185, e185, hx185_0, hx185_1⟩ := at_T49 (Kd.R_reads' HO_0.out).2.2 (ji8) p185 q185
         obtain rfl : ad184 = ad185 := (by injection e185)
         replace p185 := eq_true p185
         replace q185 := eq_true q185
         refine start_ (n := 11) (S := fun w' => w'.cell? (ad184.add ((x5_1).toNat * 2)) = some (.int .i64 ((rd_T49 x0_1 x5_1).f0)) ∧ w'.cell? ⟨(ad184.add ((x5_1).toNat * 2)).block, (ad184.add ((x5_1).toNat * 2)).off + 1, none⟩ = some (.int .i64 ((rd_T49 x0_1 x5_1).f1)) ∧ w'.cell? (ad184.add (((ji8)).toNat * 2)) = some (.int .i64 ((rd_T49 x0_1 (ji8)).f0)) ∧ w'.cell? ⟨(ad184.add (((ji8)).toNat * 2)).block, (ad184.add (((ji8)).toNat * 2)).off + 1, none⟩ = some (.int .i64 ((rd_T49 x0_1 (ji8)).f1))) (ds := []) #[false, false, false, false, false, false, false, false, false, false, false] (by kernel_rfl) rfl rfl ⟨hx184_0, hx184_1, hx185_0, hx185_1⟩ (fun hHeld => ?_); refine with_tabW slices_CompactFunc_StepS.tab6 slices_CompactFunc_StepS.bits6 (fun HT_ HW_ => ?_)
         generalize wr.drew = w40 at HO_0 HK HB hx184_0 hx184_1 hx185_0 hx185_1 hHeld ⊢
         refine puZ 0 (some 18) #[true, false, false, false, false, false, false, false, false, false, false] rfl rfl HT_.out ?_
         refine puZ 1 (some 19) #[true, true, false, false, false, false, false, false, false, false, false] rfl rfl HT_.out ?_
         refine puZ 2 (some 20) #[true, true, true, false, false, false, false, false, false, false, false] rfl rfl HT_.out ?_
         refine puZ 3 (some 21) #[true, true, true, true, false, false, false, false, false, false, false] rfl rfl HT_.out ?_
         refine puZ 5 (some 23) #[true, true, true, true, false, true, false, false, false, false, false] rfl rfl HT_.out ?_
         refine puZ 6 (some 24) #[true, true, true, true, false, true, true, false, false, false, false] rfl rfl HT_.out ?_
         refine puZ 7 (some 25) #[true, true, true, true, false, true, true, true, false, false, false] rfl rfl HT_.out ?_
         refine puZ 8 (some 26) #[true, true, true, true, false, true, true, true, true, false, false] rfl rfl HT_.out ?_
         refine take_ (i := 4) (N := some 22) (v := ?_) (a' := ?_) #[true, true, true, true, true, true, true, true, true, false, false] rfl rfl (take_ofW HT_.out HW_.out (by kernel_rfl)) (fun _ _ _ h => h) (Or.inl ⟨by rfl, ?_⟩) hHeld ?_ ?_
         rotate_left
         ·rintro w' ⟨s0, s1, s2, s3⟩
          go_simp
          with_reducible rfl
         rotate_left
         ·simp only [Act.put, List.setIfInBounds_toArray, List.set_cons_zero, List.set_cons_succ, i64_w, i32_w]
          rfl
         refine take_ (i := 9) (N := some 27) (v := ?_) (a' := ?_) #[true, true, true, true, true, true, true, true, true, true, false] rfl rfl (take_ofW HT_.out HW_.out (by kernel_rfl)) (fun _ _ _ h => h) (Or.inl ⟨by rfl, ?_⟩) hHeld ?_ ?_
         rotate_left
         ·rintro w' ⟨s0, s1, s2, s3⟩
          go_simp
          with_reducible rfl
         rotate_left
         ·simp only [Act.put, List.setIfInBounds_toArray, List.set_cons_zero, List.set_cons_succ, i64_w, i32_w]
          rfl
         refine one_ (i := 10) (N := some 28) #[true, true, true, true, true, true, true, true, true, true, true] rfl rfl (one_of HT_.out (by kernel_rfl)) (by decide) (fun K hK => ?_)
         refine goesV_ Try.func57 (by kernel_rfl) rfl #[.agg #[.int .i64 ((rd_T49 x0_1 x5_1).f0), .int .i64 ((rd_T49 x0_1 x5_1).f1)], .agg #[.int .i64 ((rd_T49 x0_1 (ji8)).f0), .int .i64 ((rd_T49 x0_1 (ji8)).f1)]] (by rfl) rfl rfl (by rfl) (by (try simp only [List.map_toArray, List.map_cons, List.map_nil]); first | done | (simp only [hji8]; rfl) | rfl | (simp only [List.length_drop, List.length_take]; rfl)) ?_
         with_reducible refine (impl_trimmedWave_c1.calls ((rd_T49 x0_1 x5_1).f0) ((rd_T49 x0_1 x5_1).f1) ((rd_T49 x0_1 (ji8)).f0) ((rd_T49 x0_1 (ji8)).f1) false _ A11.out).mono ?_
         rintro e w41 ⟨rfl, hb⟩
         have HS0_ := (hb.cell (World.block_lt_of_cell? _ _ (hHeld.1))).trans (hHeld.1)
         have HS1_ := (hb.cell (World.block_lt_of_cell? _ _ (hHeld.2.1))).trans (hHeld.2.1)
         have HS2_ := (hb.cell (World.block_lt_of_cell? _ _ (hHeld.2.2.1))).trans (hHeld.2.2.1)
         have HS3_ := (hb.cell (World.block_lt_of_cell? _ _ (hHeld.2.2.2))).trans (hHeld.2.2.2)
         refine ⟨_, rfl, ?_⟩
         have n0_ := Aside0.mk (Kd.R_below (Kd.rZ HO_0.out) hb)
         have n1_ := Aside0.mk (Kept.below (S := (fun k_ => P0_ k_)) (by repeat (first | (with_reducible first | exact HK.out | apply Kept.alloc | apply Kept.drewN | apply Kept.drew) | exact HK.out)) hb)
         have n2_ := Aside0.mk (below_step bZ hb)
         clear HO_0; clear HK; clear HB
         have HO_0 := n0_
         have HK := n1_
         have HB := n2_
         clear n0_ n1_ n2_
         (try clear hb)
         (try clear hb2)
         (try clear hk)
         (try clear hi)
         refine hK.out _ _ ⟨HS0_, HS1_, HS2_, HS3_⟩ (fun hHeld => ?_)
         clear hK K
         refine norm_ (a' := ?_) ?_ ?_
         rotate_left
         ·show Act.put _ (some 28) _ = _
          simp only [Act.put, List.setIfInBounds_toArray, List.set_cons_zero, List.set_cons_succ, i64_w, i32_w]
          rfl
         refine done_ (done_of HT_.out (by kernel_rfl)) ?_
         try go_wp2
         (try simp only [← hl0_1])
         go_roundg k1
         case measure => have := HK1.out; omega
         case rel => exact ⟨(x0_1), (wrap64 (x5_1 + 1)), sZ, H', ⟨by have := HK1.out; omega⟩, ⟨by (try simp only [hl0_1]); (with_reducible repeat (first | apply Kd.R_alloc | apply Kd.R_drewN | apply Kd.R_drew)); exact HO_0.out⟩, ⟨by repeat (first | (with_reducible first | exact HK.out | apply Kept.alloc | apply Kept.drewN | apply Kept.drew) | exact HK.out)⟩, ⟨bZ⟩⟩
       ·rw [if_neg c10] at H
        exact absurd H (by simp)
      ·rw [if_neg c9] at H
       exact absurd H (by simp)
     ·rw [if_neg c7] at H
      exact absurd H (by simp)
    ·rw [if_neg c6] at H
     have c6b0 : decide (x5_1 < (x0_1.length : Int)) = false := decide_eq_false c6
     clear c6
     obtain rfl := Option.some.inj H
     go_wp2
     go_ret
     exact ⟨_, eZ, Kd.rZ HO_0.out, bZ, by repeat (first | (with_reducible first | exact HK.out | apply Kept.alloc | apply Kept.drewN | apply Kept.drew) | exact HK.out)⟩
end Go.Proofs.Ytmmlhbfkchbpaaa.XX
end

section
namespace Go.Proofs.Ytmmlhbfkchbpaaa.XX
open Go.RowKit Go.Proofs.YtmmlhbfkchbpaaaW.PrintWords Go.Proofs.YtmmlhbfkchbpaaaW.PrintLast Go.Proofs.YtmmlhbfkchbpaaaW.PrintMore
attribute [local go_sem] run_eql_slice_nil binOp_string_gtr' binOp_string_leq' binOp_string_geq' max2_int min2_int max_two min_two max_three min_three max_four min_four   -- for this text's walks alone
set_option linter.unusedVariables false
set_option linter.unusedSimpArgs false
def impl_trimmedWave_c2.f (a0_0 : Int) (a0_1 : Int) : Option (Bool) := (impl_timeOk.f a0_0).bind fun t205 => (some (!t205))
set_option maxHeartbeats 8000000 in
set_option maxRecDepth 100000 in
theorem impl_trimmedWave_c2.calls (a0_0 : Int) (a0_1 : Int) (r : Bool) (w : World) (h : impl_trimmedWave_c2.f a0_0 a0_1 = some r) :
  Calls Try.prog 59 #[.agg #[.int .i64 a0_0, .int .i64 a0_1]] w fun e w' => e = .returned (.bool r) ∧ Below w.heap.size w w' := by
 have hu49 := Try.underlying49
 have HB := Aside0.mk (Below.refl w.heap.size w)
 have H : ((impl_timeOk.f a0_0).bind fun t205 => (some (!t205))) = some r := h
 clear h
 replace H := Option.bind_eq_some_iff.mp H
 obtain ⟨t205, A20, H⟩ := H
 replace H : (some (!t205)) = some r := H
 have A2 := Aside0.mk A20
 clear A20
 obtain rfl := Option.some.inj H
 go_enter Try.func59, Try.ntmps59
 go_wp2_with (first | ((with_reducible refine gate_dst (N := 1) rfl ?_); refine boxZ 1 #[.int .i64 a0_0, .int .i64 a0_1] 49 rfl rfl ?_; intro gb204 hg w3 hbox hb; have n0_ := Aside0.mk (below_step bZ hb); have n1_ := Aside0.mk (hbox); have n2_ := Aside0.mk ((by rw [hg]; exact bsZ : w.heap.size ≤ gb204)); have n3_ := Aside0.mk ((by rw [hg]; exact bsZ : w.heap.size ≤ gb204)); clear HB; have HB := n0_; have BK204 := n1_; have GW204 := n2_; have GE204 := n3_; clear n0_ n1_ n2_ n3_; clear hb hbox hg; have hcz4_0 := bc0 BK204.out; have hcz4_1 := bc1 BK204.out; have hfz4_0 := blk_frozen BK204.out 0; have hfz4_1 := blk_frozen BK204.out 1) | ((with_reducible refine gate_callee (f := 35) rfl ?_); refine goesL_ (some 5) rfl rfl Try.func35 (by kernel_rfl) rfl #[.int .i64 a0_0] rfl gZ ?_; (with_reducible refine (impl_timeOk.calls a0_0 t205 _ A2.out).mono ?_); rintro e w' ⟨rfl, ⟨nd, rfl⟩⟩; refine ⟨_, rfl, ?_⟩))
 go_ret
 exact ⟨eZ, bZ⟩
def slices_IndexFunc_StepS.l0 : Nat → List (S49) → Int → Int → Option (Int)
 | 0, _, _, _ => none
 | k + 1, x0, x7, x8 => if x8 < x7 then (if 0 ≤ x8 then (if x8 < (x0.length : Int) then ((impl_trimmedWave_c2.f ((rd_T49 x0 x8).f0) ((rd_T49 x0 x8).f1)).bind fun t207 => (if t207 = true then (some x8) else (slices_IndexFunc_StepS.l0 k x0 x7 (wrap64 (x8 + 1))))) else (none)) else (none)) else (some (-1))
def slices_IndexFunc_StepS.f (k : Nat) (l0 : List (S49))  : Option (Int) := slices_IndexFunc_StepS.l0 k l0 (l0.length : Int) 0
set_option maxHeartbeats 8000000 in
set_option maxRecDepth 100000 in
theorem slices_IndexFunc_StepS.calls (k : Nat) (A0 : Option Addr) (c0 : Nat) (l0 : List (S49))  (r : Int) (w : World) (hr0 : Kd.C k49 w A0 l0.length l0) (hc0 : l0.length ≤ c0) (h : slices_IndexFunc_StepS.f k l0 = some r) :
  Calls Try.prog 87 #[.slice A0 l0.length c0, .func (.func 59) #[] #[]] w fun e w' => e = .returned (.int .i64 r) ∧ Below w.heap.size w w' := by
 have hu49 := Try.underlying49
 have HR0 := Aside0.mk hr0
 have HC0 := Aside0.mk hc0
 clear hr0 hc0
 have HB := Aside0.mk (Below.refl w.heap.size w)
 have H : (slices_IndexFunc_StepS.l0 k l0 (l0.length : Int) 0) = some r := h
 clear h
 have H' := Aside0.mk H
 clear H
 go_enter Try.func87, Try.ntmps87
 go_wp2
 go_loopg [8] k (fun kq v8 w' => ∃ (x8_1 : Int), v8 = .int .i64 x8_1 ∧ Aside0 (slices_IndexFunc_StepS.l0 kq l0 (l0.length : Int) x8_1 = some r) ∧ Aside0 (kq ≤ k) ∧ Aside0 (Below w.heap.size w w'))
 case atStart => exact ⟨(0), sZ, H', ⟨Nat.le_refl _⟩, ⟨bZ⟩⟩
 case round =>
  clear H'; (try clear p2)
  obtain ⟨x8_1, rfl, HA, HK1, HB⟩ := hrel
  cases gk with
  | zero => exact absurd HA.out (by simp [slices_IndexFunc_StepS.l0])
  | succ k1 =>
   have H := HA.out
   clear HA
   simp only [slices_IndexFunc_StepS.l0] at H
   by_cases c3 : x8_1 < (l0.length : Int)
   ·rw [if_pos c3] at H
    have c3b0 : decide (x8_1 < (l0.length : Int)) = true := decide_eq_true c3
    clear c3
    by_cases c4 : 0 ≤ x8_1
    ·rw [if_pos c4] at H
     have c4b0 : decide (0 ≤ x8_1) = true := decide_eq_true c4
     clear c4
     by_cases c5 : x8_1 < (l0.length : Int)
     ·rw [if_pos c5] at H
      have c5b0 : decide (x8_1 < (l0.length : Int)) = true := decide_eq_true c5
      clear c5
      replace H := Option.bind_eq_some_iff.mp H
      obtain ⟨t207, A60, H⟩ := H
      replace H : (if t207 = true then (some x8_1) else (slices_IndexFunc_StepS.l0 k1 l0 (l0.length : Int) (wrap64 (x8_1 + 1)))) = some r := H
      have A6 := Aside0.mk A60
      clear A60
      by_cases c7 : t207 = true
      ·subst c7
       have H1 : (some x8_1) = some r := by rw [if_pos rfl] at H; exact H
       clear H
       have H := H1
       clear H1
       obtain rfl := Option.some.inj H
       have p206 : 0 ≤ (x8_1 : Int) := oZ
       have q206 : x8_1 < (l0.length : Int) := oZ
       obtain ⟨ad206, e206, hx206_0, hx206_1⟩ := at_T49 HR0.out x8_1 p206 q206
       cases e206
       replace hx206_0 := (HB.out.cell (World.block_lt_of_cell? w _ hx206_0)).trans hx206_0
       replace hx206_1 := (HB.out.cell (World.block_lt_of_cell? w _ hx206_1)).trans hx206_1
       replace p206 := eq_true p206
       replace q206 := eq_true q206
       go_wp2_with (first | (go_at_call 59; (with_reducible refine (impl_trimmedWave_c2.calls ((rd_T49 l0 x8_1).f0) ((rd_T49 l0 x8_1).f1) true _ A6.out).mono ?_); rintro e w8 ⟨rfl, hb⟩; have n0_ := Aside0.mk (below_step bZ hb); clear HB; have HB := n0_; clear n0_; (try clear hb); (try clear hb2); (try clear hk); (try clear hi)))
       go_ret
       exact ⟨eZ, bZ⟩
      ·replace c7 := Bool.eq_false_iff.mpr c7
       subst c7
       have H1 : (slices_IndexFunc_StepS.l0 k1 l0 (l0.length : Int) (wrap64 (x8_1 + 1))) = some r := by rw [if_neg (show ¬ (false = true) by decide)] at H; exact H
       clear H
       have H := H1
       clear H1
       have H' := Aside0.mk H
       clear H
       have p206 : 0 ≤ (x8_1 : Int) := oZ
       have q206 : x8_1 < (l0.length : Int) := oZ
       obtain ⟨ad206, e206, hx206_0, hx206_1⟩ := at_T49 HR0.out x8_1 p206 q206
       cases e206
       replace hx206_0 := (HB.out.cell (World.block_lt_of_cell? w _ hx206_0)).trans hx206_0
       replace hx206_1 := (HB.out.cell (World.block_lt_of_cell? w _ hx206_1)).trans hx206_1
       replace p206 := eq_true p206
       replace q206 := eq_true q206
       go_wp2_with (first | (go_at_call 59; (with_reducible refine (impl_trimmedWave_c2.calls ((rd_T49 l0 x8_1).f0) ((rd_T49 l0 x8_1).f1) false _ A6.out).mono ?_); rintro e w9 ⟨rfl, hb⟩; have n0_ := Aside0.mk (below_step bZ hb); clear HB; have HB := n0_; clear n0_; (try clear hb); (try clear hb2); (try clear hk); (try clear hi)))
       go_roundg k1
       case measure => have := HK1.out; omega
       case rel => exact ⟨(wrap64 (x8_1 + 1)), sZ, H', ⟨by have := HK1.out; omega⟩, ⟨bZ⟩⟩
     ·rw [if_neg c5] at H
      exact absurd H (by simp)
    ·rw [if_neg c4] at H
     exact absurd H (by simp)
   ·rw [if_neg c3] at H
    have c3b0 : decide (x8_1 < (l0.length : Int)) = false := decide_eq_false c3
    clear c3
    obtain rfl := Option.some.inj H
    go_wp2
    go_ret
    exact ⟨eZ, bZ⟩
def slices_ContainsFunc_StepS.f (k : Nat) (l0 : List (S49))  : Option (Bool) := (slices_IndexFunc_StepS.f k l0).bind fun t208 => (some (decide (t208 ≥ 0)))
set_option maxHeartbeats 8000000 in
set_option maxRecDepth 100000 in
theorem slices_ContainsFunc_StepS.calls (k : Nat) (A0 : Option Addr) (c0 : Nat) (l0 : List (S49))  (r : Bool) (w : World) (hr0 : Kd.C k49 w A0 l0.length l0) (hc0 : l0.length ≤ c0) (h : slices_ContainsFunc_StepS.f k l0 = some r) :
  Calls Try.prog 58 #[.slice A0 l0.length c0, .func (.func 59) #[] #[]] w fun e w' => e = .returned (.bool r) ∧ Below w.heap.size w w' := by
 have HR0 := Aside0.mk hr0
 have HC0 := Aside0.mk hc0
 clear hr0 hc0
 have HB := Aside0.mk (Below.refl w.heap.size w)
 have H : ((slices_IndexFunc_StepS.f k l0).bind fun t208 => (some (decide (t208 ≥ 0)))) = some r := h
 clear h
 replace H := Option.bind_eq_some_iff.mp H
 obtain ⟨t208, A30, H⟩ := H
 replace H : (some (decide (t208 ≥ 0))) = some r := H
 have A3 := Aside0.mk A30
 clear A30
 obtain rfl := Option.some.inj H
 go_enter Try.func58, Try.ntmps58
 go_wp2_with (first | ((with_reducible refine gate_callee (f := 87) rfl ?_); refine goesL_ (some 7) rfl rfl Try.func87 (by kernel_rfl) rfl #[.slice A0 l0.length c0, .func (.func 59) #[] #[]] rfl gZ ?_; (with_reducible refine (slices_IndexFunc_StepS.calls k _ _ l0  t208 _ ?side1 ?side2 A3.out).mono ?_); (case side1 => repeat (first | exact HR0.out | (with_reducible refine Kd.C_alloc ?_ _) | (with_reducible refine Kd.C_drewN ?_ _) | (with_reducible refine Kd.C_drew ?_))); (case side2 => exact HC0.out); rintro e w4 ⟨rfl, hb⟩; refine ⟨_, rfl, ?_⟩; have n0_ := Aside0.mk (below_step bZ hb); clear HB; have HB := n0_; clear n0_; (try clear hb); (try clear hb2); (try clear hk); (try clear hi)))
 go_ret
 exact ⟨eZ, bZ⟩
end Go.Proofs.Ytmmlhbfkchbpaaa.XX
end

section
namespace Go.Proofs.Ytmmlhbfkchbpaaa.XX
open Go.RowKit Go.Proofs.YtmmlhbfkchbpaaaW.PrintWords Go.Proofs.YtmmlhbfkchbpaaaW.PrintLast Go.Proofs.YtmmlhbfkchbpaaaW.PrintMore
attribute [local go_sem] run_eql_slice_nil binOp_string_gtr' binOp_string_leq' binOp_string_geq' max2_int min2_int max_two min_two max_three min_three max_four min_four   -- for this text's walks alone
set_option linter.unusedVariables false
set_option linter.unusedSimpArgs false
def impl_trimmedWave.f (k : Nat) (l0 : List (S49)) : Option ((List (S49)) × Int) := (slices_Clone_StepS.f l0).bind fun t209 => ((slices_CompactFunc_StepS.f k t209).bind fun t212 => ((slices_ContainsFunc_StepS.f k t212).bind fun t215 => (if t215 = true then (some (([] : List (S49)), 6)) else (if (t212.length : Int) > 24 then (some (([] : List (S49)), 5)) else (some (t212, 0))))))
set_option maxHeartbeats 8000000 in
set_option maxRecDepth 100000 in
theorem impl_trimmedWave.calls (k : Nat) (A0 : Option Addr) (c0 : Nat) (l0 : List (S49)) (r1 : List (S49)) (r2 : Int) (w : World) (hr0 : Kd.C k49 w A0 l0.length l0) (hc0 : l0.length ≤ c0) (h : impl_trimmedWave.f k l0 = some (r1, r2)) :
  Calls Try.prog 29 #[.slice A0 l0.length c0] w fun e w' => ∃ v0_ : Value, e = .returned (.tuple #[v0_, .int .i64 r2]) ∧ Kd.R k49 49 w' w.heap.size (fun _ => True) v0_ r1 ∧ Below w.heap.size w w' := by
 have HR0 := Aside0.mk hr0
 have HC0 := Aside0.mk hc0
 clear hr0 hc0
 have HB := Aside0.mk (Below.refl w.heap.size w)
 have H : ((slices_Clone_StepS.f l0).bind fun t209 => ((slices_CompactFunc_StepS.f k t209).bind fun t212 => ((slices_ContainsFunc_StepS.f k t212).bind fun t215 => (if t215 = true then (some (([] : List (S49)), 6)) else (if (t212.length : Int) > 24 then (some (([] : List (S49)), 5)) else (some (t212, 0))))))) = some (r1, r2) := h
 clear h
 replace H := Option.bind_eq_some_iff.mp H
 obtain ⟨t209, A20, H⟩ := H
 replace H : ((slices_CompactFunc_StepS.f k t209).bind fun t212 => ((slices_ContainsFunc_StepS.f k t212).bind fun t215 => (if t215 = true then (some (([] : List (S49)), 6)) else (if (t212.length : Int) > 24 then (some (([] : List (S49)), 5)) else (some (t212, 0)))))) = some (r1, r2) := H
 have A2 := Aside0.mk A20
 clear A20
 replace H := Option.bind_eq_some_iff.mp H
 obtain ⟨t212, A30, H⟩ := H
 replace H : ((slices_ContainsFunc_StepS.f k t212).bind fun t215 => (if t215 = true then (some (([] : List (S49)), 6)) else (if (t212.length : Int) > 24 then (some (([] : List (S49)), 5)) else (some (t212, 0))))) = some (r1, r2) := H
 have A3 := Aside0.mk A30
 clear A30
 replace H := Option.bind_eq_some_iff.mp H
 obtain ⟨t215, A40, H⟩ := H
 replace H : (if t215 = true then (some (([] : List (S49)), 6)) else (if (t212.length : Int) > 24 then (some (([] : List (S49)), 5)) else (some (t212, 0)))) = some (r1, r2) := H
 have A4 := Aside0.mk A40
 clear A40
 by_cases c5 : t215 = true
 ·subst c5
  have H1 : (some (([] : List (S49)), 6)) = some (r1, r2) := by rw [if_pos rfl] at H; exact H
  clear H
  have H := H1
  clear H1
  simp only [Option.some.injEq, Prod.mk.injEq] at H
  obtain ⟨rfl, rfl⟩ := H
  go_enter Try.func29, Try.ntmps29
  go_wp2_with (first | ((with_reducible refine gate_callee (f := 40) rfl ?_); refine goesL_ (some 6) rfl rfl Try.func40 (by kernel_rfl) rfl #[.slice A0 l0.length c0] rfl gZ ?_; (with_reducible refine (slices_Clone_StepS.calls _ _ l0 t209 _ ?side1 ?side2 A2.out).mono ?_); (case side1 => repeat (first | exact HR0.out | (with_reducible refine Kd.C_alloc ?_ _) | (with_reducible refine Kd.C_drewN ?_ _) | (with_reducible refine Kd.C_drew ?_))); (case side2 => exact HC0.out); rintro e w6 ⟨v210, rfl, ho0, hb⟩; refine ⟨_, rfl, ?_⟩; have n0_ := Aside0.mk (Kd.R_lower ho0 bsZ); have n1_ := Aside0.mk (below_step bZ hb); clear HB; have HO211 := n0_; have HB := n1_; clear n0_ n1_; (try clear hb); (try clear hb2); (try clear hk); (try clear hi); (try clear ho0); obtain ⟨Ao7, co7, eo7⟩ := Kd.R_slice HO211.out; subst eo7) | ((with_reducible refine gate_callee (f := 56) rfl ?_); refine goesL_ (some 7) rfl rfl Try.func56 (by kernel_rfl) rfl #[.slice Ao7 t209.length co7, .func (.func 57) #[] #[]] rfl gZ ?_; (with_reducible refine (slices_CompactFunc_StepS.calls k (fun k_ => some k_ = (.slice Ao7 t209.length co7 : Value).ownBlock) (.slice Ao7 t209.length co7) t209  t212 w _ ?side1 ?side2 A3.out).mono ?_); (case side1 => repeat (first | (with_reducible first | exact HB.out | apply below_alloc | apply pw_below_drewN | apply below_drew1) | exact HB.out)); (case side2 => exact Kd.R_tight rfl HO211.out); rintro e w8 ⟨v213, rfl, ho0, hb, hkp⟩; refine ⟨_, rfl, ?_⟩; have n0_ := Aside0.mk (Kd.R_mono (ok' := fun k_ => True) ho0 (fun k_ hk_ => trivial)); have n1_ := Aside0.mk (hb); clear HB; clear HO211; have HO214 := n0_; have HB := n1_; clear n0_ n1_; (try clear hb); (try clear hkp); (try clear ho0); obtain ⟨Ao9, co9, eo9⟩ := Kd.R_slice HO214.out; subst eo9) | ((with_reducible refine gate_callee (f := 58) rfl ?_); refine goesL_ (some 10) rfl rfl Try.func58 (by kernel_rfl) rfl #[.slice Ao9 t212.length co9, .func (.func 59) #[] #[]] rfl gZ ?_; (with_reducible refine (slices_ContainsFunc_StepS.calls k _ _ t212  true _ ?side1 ?side2 A4.out).mono ?_); (case side1 => exact Kd.cZ HO214.out); (case side2 => exact (Kd.R_reads' HO214.out).2.1); rintro e w10 ⟨rfl, hb⟩; refine ⟨_, rfl, ?_⟩; have n0_ := Aside0.mk (Kd.R_below (Kd.rZ HO214.out) hb); have n1_ := Aside0.mk (below_step bZ hb); clear HO214; clear HB; have HO214 := n0_; have HB := n1_; clear n0_ n1_; (try clear hb); (try clear hb2); (try clear hk); (try clear hi)))
  go_ret2
  exact ⟨_, eZ, by first | exact Kd.R_nil _ _ _ _ _ | exact Kd.N_nil _ _ _ _ _ | exact Kd.V_nil _ _ _ _ _ | exact Kd.Q_nil _ _ _ _ _ | exact Kd.S_nil _ _ _ _ _, bZ⟩
 ·replace c5 := Bool.eq_false_iff.mpr c5
  subst c5
  have H1 : (if (t212.length : Int) > 24 then (some (([] : List (S49)), 5)) else (some (t212, 0))) = some (r1, r2) := by rw [if_neg (show ¬ (false = true) by decide)] at H; exact H
  clear H
  have H := H1
  clear H1
  by_cases c11 : (t212.length : Int) > 24
  ·rw [if_pos c11] at H
   have c11b0 : decide (24 < (t212.length : Int)) = true := decide_eq_true c11
   have c11b1 : decide (24 < t212.length) = true := decide_eq_true (by omega)
   clear c11
   simp only [Option.some.injEq, Prod.mk.injEq] at H
   obtain ⟨rfl, rfl⟩ := H
   go_enter Try.func29, Try.ntmps29
   go_wp2_with (first | ((with_reducible refine gate_callee (f := 40) rfl ?_); refine goesL_ (some 6) rfl rfl Try.func40 (by kernel_rfl) rfl #[.slice A0 l0.length c0] rfl gZ ?_; (with_reducible refine (slices_Clone_StepS.calls _ _ l0 t209 _ ?side1 ?side2 A2.out).mono ?_); (case side1 => repeat (first | exact HR0.out | (with_reducible refine Kd.C_alloc ?_ _) | (with_reducible refine Kd.C_drewN ?_ _) | (with_reducible refine Kd.C_drew ?_))); (case side2 => exact HC0.out); rintro e w12 ⟨v210, rfl, ho0, hb⟩; refine ⟨_, rfl, ?_⟩; have n0_ := Aside0.mk (Kd.R_lower ho0 bsZ); have n1_ := Aside0.mk (below_step bZ hb); clear HB; have HO211 := n0_; have HB := n1_; clear n0_ n1_; (try clear hb); (try clear hb2); (try clear hk); (try clear hi); (try clear ho0); obtain ⟨Ao13, co13, eo13⟩ := Kd.R_slice HO211.out; subst eo13) | ((with_reducible refine gate_callee (f := 56) rfl ?_); refine goesL_ (some 7) rfl rfl Try.func56 (by kernel_rfl) rfl #[.slice Ao13 t209.length co13, .func (.func 57) #[] #[]] rfl gZ ?_; (with_reducible refine (slices_CompactFunc_StepS.calls k (fun k_ => some k_ = (.slice Ao13 t209.length co13 : Value).ownBlock) (.slice Ao13 t209.length co13) t209  t212 w _ ?side1 ?side2 A3.out).mono ?_); (case side1 => repeat (first | (with_reducible first | exact HB.out | apply below_alloc | apply pw_below_drewN | apply below_drew1) | exact HB.out)); (case side2 => exact Kd.R_tight rfl HO211.out); rintro e w14 ⟨v213, rfl, ho0, hb, hkp⟩; refine ⟨_, rfl, ?_⟩; have n0_ := Aside0.mk (Kd.R_mono (ok' := fun k_ => True) ho0 (fun k_ hk_ => trivial)); have n1_ := Aside0.mk (hb); clear HB; clear HO211; have HO214 := n0_; have HB := n1_; clear n0_ n1_; (try clear hb); (try clear hkp); (try clear ho0); obtain ⟨Ao15, co15, eo15⟩ := Kd.R_slice HO214.out; subst eo15) | ((with_reducible refine gate_callee (f := 58) rfl ?_); refine goesL_ (some 10) rfl rfl Try.func58 (by kernel_rfl) rfl #[.slice Ao15 t212.length co15, .func (.func 59) #[] #[]] rfl gZ ?_; (with_reducible refine (slices_ContainsFunc_StepS.calls k _ _ t212  false _ ?side1 ?side2 A4.out).mono ?_); (case side1 => exact Kd.cZ HO214.out); (case side2 => exact (Kd.R_reads' HO214.out).2.1); rintro e w16 ⟨rfl, hb⟩; refine ⟨_, rfl, ?_⟩; have n0_ := Aside0.mk (Kd.R_below (Kd.rZ HO214.out) hb); have n1_ := Aside0.mk (below_step bZ hb); clear HO214; clear HB; have HO214 := n0_; have HB := n1_; clear n0_ n1_; (try clear hb); (try clear hb2); (try clear hk); (try clear hi)))
   go_ret2
   exact ⟨_, eZ, by first | exact Kd.R_nil _ _ _ _ _ | exact Kd.N_nil _ _ _ _ _ | exact Kd.V_nil _ _ _ _ _ | exact Kd.Q_nil _ _ _ _ _ | exact Kd.S_nil _ _ _ _ _, bZ⟩
  ·rw [if_neg c11] at H
   have c11b0 : decide (24 < (t212.length : Int)) = false := decide_eq_false c11
   have c11b1 : decide (24 < t212.length) = false := decide_eq_false (by omega)
   clear c11
   simp only [Option.some.injEq, Prod.mk.injEq] at H
   obtain ⟨rfl, rfl⟩ := H
   go_enter Try.func29, Try.ntmps29
   go_wp2_with (first | ((with_reducible refine gate_callee (f := 40) rfl ?_); refine goesL_ (some 6) rfl rfl Try.func40 (by kernel_rfl) rfl #[.slice A0 l0.length c0] rfl gZ ?_; (with_reducible refine (slices_Clone_StepS.calls _ _ l0 t209 _ ?side1 ?side2 A2.out).mono ?_); (case side1 => repeat (first | exact HR0.out | (with_reducible refine Kd.C_alloc ?_ _) | (with_reducible refine Kd.C_drewN ?_ _) | (with_reducible refine Kd.C_drew ?_))); (case side2 => exact HC0.out); rintro e w17 ⟨v210, rfl, ho0, hb⟩; refine ⟨_, rfl, ?_⟩; have n0_ := Aside0.mk (Kd.R_lower ho0 bsZ); have n1_ := Aside0.mk (below_step bZ hb); clear HB; have HO211 := n0_; have HB := n1_; clear n0_ n1_; (try clear hb); (try clear hb2); (try clear hk); (try clear hi); (try clear ho0); obtain ⟨Ao18, co18, eo18⟩ := Kd.R_slice HO211.out; subst eo18) | ((with_reducible refine gate_callee (f := 56) rfl ?_); refine goesL_ (some 7) rfl rfl Try.func56 (by kernel_rfl) rfl #[.slice Ao18 t209.length co18, .func (.func 57) #[] #[]] rfl gZ ?_; (with_reducible refine (slices_CompactFunc_StepS.calls k (fun k_ => some k_ = (.slice Ao18 t209.length co18 : Value).ownBlock) (.slice Ao18 t209.length co18) t209  t212 w _ ?side1 ?side2 A3.out).mono ?_); (case side1 => repeat (first | (with_reducible first | exact HB.out | apply below_alloc | apply pw_below_drewN | apply below_drew1) | exact HB.out)); (case side2 => exact Kd.R_tight rfl HO211.out); rintro e w19 ⟨v213, rfl, ho0, hb, hkp⟩; refine ⟨_, rfl, ?_⟩; have n0_ := Aside0.mk (Kd.R_mono (ok' := fun k_ => True) ho0 (fun k_ hk_ => trivial)); have n1_ := Aside0.mk (hb); clear HB; clear HO211; have HO214 := n0_; have HB := n1_; clear n0_ n1_; (try clear hb); (try clear hkp); (try clear ho0); obtain ⟨Ao20, co20, eo20⟩ := Kd.R_slice HO214.out; subst eo20) | ((with_reducible refine gate_callee (f := 58) rfl ?_); refine goesL_ (some 10) rfl rfl Try.func58 (by kernel_rfl) rfl #[.slice Ao20 t212.length co20, .func (.func 59) #[] #[]] rfl gZ ?_; (with_reducible refine (slices_ContainsFunc_StepS.calls k _ _ t212  false _ ?side1 ?side2 A4.out).mono ?_); (case side1 => exact Kd.cZ HO214.out); (case side2 => exact (Kd.R_reads' HO214.out).2.1); rintro e w21 ⟨rfl, hb⟩; refine ⟨_, rfl, ?_⟩; have n0_ := Aside0.mk (Kd.R_below (Kd.rZ HO214.out) hb); have n1_ := Aside0.mk (below_step bZ hb); clear HO214; clear HB; have HO214 := n0_; have HB := n1_; clear n0_ n1_; (try clear hb); (try clear hb2); (try clear hk); (try clear hi)))
   go_ret2
   exact ⟨_, eZ, Kd.rZ HO214.out, bZ⟩
end Go.Proofs.Ytmmlhbfkchbpaaa.XX
end
