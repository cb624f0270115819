/- The law FnExactBuildingsOfBlocks: part 2 of its texts, joined (wip/pack.py). -/
import Derived.Test.YtlbcnflcibmifaaGreatDoorKFnExactBuildingsOfBlocksa
import Derived.Test.YtlbcnflcibmifaaGreatDoorKFnExactBuildingsOfBlocksb

section
namespace Go.Proofs.YtlbcnflcibmifaaGreatDoor.XT
open Go.RowKit Go.Proofs.YtlbcnflcibmifaaGreatDoorW.PrintWords Go.Proofs.YtlbcnflcibmifaaGreatDoorW.PrintLast Go.Proofs.YtlbcnflcibmifaaGreatDoorW.PrintMore
attribute [local go_sem] run_eql_slice_nil binOp_string_gtr' binOp_string_leq' binOp_string_geq' max2_int min2_int max_two min_two max_three min_three max_four min_four   -- for this text's walks alone
set_option linter.unusedVariables false
set_option linter.unusedSimpArgs false
def spec_l00In.f (a0 : Int) (a1 : Int) (a2 : Int) : Option (Bool) := if a0 ≥ a1 then (some (decide (a0 ≤ a2))) else (some false)
set_option maxHeartbeats 8000000 in
set_option maxRecDepth 100000 in
theorem spec_l00In.calls (a0 : Int) (a1 : Int) (a2 : Int) (r : Bool) (w : World) (h : spec_l00In.f a0 a1 a2 = some r) :
  Calls Tryz.prog 38 #[.int .i64 a0, .int .i64 a1, .int .i64 a2] w fun e w' => e = .returned (.bool r) ∧ Drawn0 w w' := by
 have H : (if a0 ≥ a1 then (some (decide (a0 ≤ a2))) else (some false)) = some r := h
 clear h
 by_cases c4 : a0 ≥ a1
 ·rw [if_pos c4] at H
  have c4b0 : decide (a1 ≤ a0) = true := decide_eq_true c4
  clear c4
  obtain rfl := Option.some.inj H
  go_enter Tryz.func38, Tryz.ntmps38
  go_wp2
  go_ret
  exact ⟨sZ, dZ⟩
 ·rw [if_neg c4] at H
  have c4b0 : decide (a1 ≤ a0) = false := decide_eq_false c4
  clear c4
  obtain rfl := Option.some.inj H
  go_enter Tryz.func38, Tryz.ntmps38
  go_wp2
  go_ret
  exact ⟨sZ, dZ⟩
def spec_ReadList.l0 : Nat → List ByteArray → List Int → Int → Option (List Int × Bool)
 | 0, _, _, _ => none
 | k + 1, x4, x5, x6 => if x6 < (x4.length : Int) then (if 0 ≤ x6 then ((spec_l01Number.f k (rdOf ByteArray.empty x4 x6)).bind fun bt134 => (if bt134.2 = true then ((spec_l00In.f bt134.1 (-1000000000000) 1000000000000).bind fun t136 => (if t136 = true then (if x5.length < 17592186044416 then (spec_ReadList.l0 k x4 (x5 ++ [bt134.1]) (wrap64 (x6 + 1))) else (none)) else (some (([] : List Int), false)))) else (some (([] : List Int), false)))) else (none)) else (some (x5, true))
def spec_ReadList.f (k : Nat) (a0 : ByteArray) : Option (List Int × Bool) := if a0.toList = ([45] : List UInt8) then (some ((([] : List Int)), true)) else ((spec_l01Split.f k a0 44).bind fun t127 => (if (t127.length : Int) > 64 then (some (([] : List Int), false)) else (spec_ReadList.l0 k t127 (([] : List Int)) 0)))
set_option maxHeartbeats 8000000 in
set_option maxRecDepth 100000 in
theorem spec_ReadList.calls (k : Nat) (a0 : ByteArray) (r1 : List Int) (r2 : Bool) (w : World) (h : spec_ReadList.f k a0 = some (r1, r2)) :
  Calls Tryz.prog 27 #[.string a0] w fun e w' => ∃ v0_ : Value, e = .returned (.tuple #[v0_, .bool r2]) ∧ Kd.R (Kd.int .i64) 2 w' w.heap.size (fun _ => True) v0_ r1 ∧ Below w.heap.size w w' := by
 have HB := Aside0.mk (Below.refl w.heap.size w)
 have H : (if a0.toList = ([45] : List UInt8) then (some ((([] : List Int)), true)) else ((spec_l01Split.f k a0 44).bind fun t127 => (if (t127.length : Int) > 64 then (some (([] : List Int), false)) else (spec_ReadList.l0 k t127 (([] : List Int)) 0)))) = some (r1, r2) := h
 clear h
 by_cases c2 : a0.toList = ([45] : List UInt8)
 ·rw [if_pos c2] at H
  have c2b0 : (a0.toList == ([45] : List UInt8)) = true := beq_iff_eq.mpr c2
  have c2b1 : (a0.toList != ([45] : List UInt8)) = false := bne_eq_false_iff_eq.mpr c2
  clear c2
  obtain ⟨y124, hy124⟩ : ∃ y_ : List Int, y_ = (([] : List Int)) := ⟨_, rfl⟩
  replace H : (some (y124, true)) = some (r1, r2) := by first | (rw [hy124]; with_reducible exact H) | (have H2_ := (Option.bind_some _ _).symm.trans H; rw [hy124]; with_reducible exact H2_) | (have H2_ := (Option.bind_some _ _).symm.trans H; with_reducible exact H2_) | with_reducible exact H | (rw [hy124]; exact H) | exact H
  have Ny124 := Aside0.mk hy124
  clear hy124
  simp only [Option.some.injEq, Prod.mk.injEq] at H
  obtain ⟨rfl, rfl⟩ := H
  go_enter Tryz.func27, Tryz.ntmps27
  go_wp2_with (first | ((with_reducible refine gate_dst (N := 11) rfl ?_); refine Kd.R_lit (Kd.int .i64) _ 2 ?hg (N := 11) ?hd (xs := ([] : List Int)) (inner := []) (ok := fun _ => True) (okp := fun _ => True) ?hr ?hp (fun _ hk => hk) trivial (Below.refl _ _) (Nat.le_refl _) (by simp) ?_; (case hd => rfl); (case hg => rfl); (case hr => first | (go_simp; done) | (go_simp; rfl)); (case hp => exact (Reps.none _ _)); intro v125 w3 ho4 hb hg_ hnew_; clear hg_ hnew_; (first | rw [← Ny124.out] at ho4 | (simp only [Int.reduceToNat] at ho4; rw [← Ny124.out] at ho4)); have n0_ := Aside0.mk (Kd.R_lower ho4 bsZ); have n1_ := Aside0.mk (below_step bZ hb); clear HB; have HO126 := n0_; have HB := n1_; clear n0_ n1_; clear hb ho4))
  go_ret2
  exact ⟨_, eZ, Kd.rZ HO126.out, bZ⟩
 ·rw [if_neg c2] at H
  have c2b0 : (a0.toList == ([45] : List UInt8)) = false := beq_eq_false_iff_ne.mpr c2
  have c2b1 : (a0.toList != ([45] : List UInt8)) = true := bne_iff_ne.mpr c2
  replace H := Option.bind_eq_some_iff.mp H
  obtain ⟨t127, A50, H⟩ := H
  replace H : (if (t127.length : Int) > 64 then (some (([] : List Int), false)) else (spec_ReadList.l0 k t127 (([] : List Int)) 0)) = some (r1, r2) := H
  have A5 := Aside0.mk A50
  clear A50
  by_cases c6 : (t127.length : Int) > 64
  ·rw [if_pos c6] at H
   have c6b0 : decide (64 < (t127.length : Int)) = true := decide_eq_true c6
   have c6b1 : decide (64 < t127.length) = true := decide_eq_true (by omega)
   clear c6
   simp only [Option.some.injEq, Prod.mk.injEq] at H
   obtain ⟨rfl, rfl⟩ := H
   go_enter Tryz.func27, Tryz.ntmps27
   go_wp2_with (first | ((with_reducible refine gate_callee (f := 26) rfl ?_); refine goesL_ (some 13) rfl rfl Tryz.func26 (by kernel_rfl) rfl #[.string a0, .int .u8 44] rfl gZ ?_; (with_reducible refine (spec_l01Split.calls k a0 44 t127 _ A5.out).mono ?_); rintro e w7 ⟨v128, rfl, ho0, hb⟩; refine ⟨_, rfl, ?_⟩; have n0_ := Aside0.mk (Kd.R_lower ho0 bsZ); have n1_ := Aside0.mk (below_step bZ hb); clear HB; have HO129 := n0_; have HB := n1_; clear n0_ n1_; (try clear hb); (try clear hb2); (try clear hk); (try clear hi); (try clear ho0); obtain ⟨Ao8, co8, eo8⟩ := Kd.R_slice HO129.out; subst eo8))
   go_ret2
   exact ⟨_, eZ, by first | exact Kd.R_nil _ _ _ _ _ | exact Kd.N_nil _ _ _ _ _ | exact Kd.V_nil _ _ _ _ _ | exact Kd.Q_nil _ _ _ _ _ | exact Kd.S_nil _ _ _ _ _, bZ⟩
  ·rw [if_neg c6] at H
   have c6b0 : decide (64 < (t127.length : Int)) = false := decide_eq_false c6
   have c6b1 : decide (64 < t127.length) = false := decide_eq_false (by omega)
   clear c6
   obtain ⟨y130, hy130⟩ : ∃ y_ : List Int, y_ = (([] : List Int)) := ⟨_, rfl⟩
   replace H : (spec_ReadList.l0 k t127 y130 0) = some (r1, r2) := by first | (rw [hy130]; with_reducible exact H) | (have H2_ := (Option.bind_some _ _).symm.trans H; rw [hy130]; with_reducible exact H2_) | (have H2_ := (Option.bind_some _ _).symm.trans H; with_reducible exact H2_) | with_reducible exact H | (rw [hy130]; exact H) | exact H
   have Ny130 := Aside0.mk hy130
   clear hy130
   have H' := Aside0.mk H
   clear H
   go_enter Tryz.func27, Tryz.ntmps27
   go_wp2_with (first | ((with_reducible refine gate_callee (f := 26) rfl ?_); refine goesL_ (some 13) rfl rfl Tryz.func26 (by kernel_rfl) rfl #[.string a0, .int .u8 44] rfl gZ ?_; (with_reducible refine (spec_l01Split.calls k a0 44 t127 _ A5.out).mono ?_); rintro e w9 ⟨v128, rfl, ho0, hb⟩; refine ⟨_, rfl, ?_⟩; have n0_ := Aside0.mk (Kd.R_lower ho0 bsZ); have n1_ := Aside0.mk (below_step bZ hb); clear HB; have HO129 := n0_; have HB := n1_; clear n0_ n1_; (try clear hb); (try clear hb2); (try clear hk); (try clear hi); (try clear ho0); obtain ⟨Ao10, co10, eo10⟩ := Kd.R_slice HO129.out; subst eo10) | ((with_reducible refine gate_dst (N := 17) rfl ?_); refine Kd.R_lit (Kd.int .i64) _ 2 ?hg (N := 17) ?hd (xs := ([] : List Int)) (inner := []) (ok := fun _ => True) (okp := fun _ => True) ?hr ?hp (fun _ hk => hk) trivial (Below.refl _ _) (Nat.le_refl _) (by simp) ?_; (case hd => rfl); (case hg => rfl); (case hr => first | (go_simp; done) | (go_simp; rfl)); (case hp => exact (Reps.none _ _)); intro v131 w11 ho12 hb hg_ hnew_; clear hg_ hnew_; (first | rw [← Ny130.out] at ho12 | (simp only [Int.reduceToNat] at ho12; rw [← Ny130.out] at ho12)); have n0_ := Aside0.mk (Kd.R_below (Kd.rZ HO129.out) hb); have n1_ := Aside0.mk (Kd.R_lower ho12 bsZ); have n2_ := Aside0.mk (below_step bZ hb); clear HO129; clear HB; have HO129 := n0_; have HO132 := n1_; have HB := n2_; clear n0_ n1_ n2_; clear hb ho12))
   go_loopg [5, 6] k (fun kq v5 v6 w' => ∃ (x5_1 : List Int) (x6_1 : Int), v6 = .int .i64 x6_1 ∧ Aside0 (spec_ReadList.l0 kq t127 x5_1 x6_1 = some (r1, r2)) ∧ Aside0 (kq ≤ k) ∧ Aside0 (Kd.R Kd.string 9 w' w.heap.size (fun _ => True) (.slice Ao10 t127.length co10) t127) ∧ Aside0 (Kd.R (Kd.int .i64) 2 w' w.heap.size (fun _ => True) v5 x5_1) ∧ Aside0 (Below w.heap.size w w'))
   case atStart => exact ⟨(y130), (0), sZ, H', ⟨Nat.le_refl _⟩, ⟨Kd.rZ HO129.out⟩, ⟨Kd.rZ HO132.out⟩, ⟨bZ⟩⟩
   case round =>
    clear H'; (try clear c2); (try clear c2b0); (try clear c2b1); (try clear p2); (try clear c6); (try clear c6b0); (try clear c6b1)
    obtain ⟨x5_1, x6_1, rfl, HA, HK1, HO_4, HO_5, HB⟩ := hrel
    cases gk with
    | zero => exact absurd HA.out (by simp [spec_ReadList.l0])
    | succ k1 =>
     have H := HA.out
     clear HA
     simp only [spec_ReadList.l0] at H
     by_cases c13 : x6_1 < (t127.length : Int)
     ·rw [if_pos c13] at H
      have c13b0 : decide (x6_1 < (t127.length : Int)) = true := decide_eq_true c13
      clear c13
      by_cases c14 : 0 ≤ x6_1
      ·rw [if_pos c14] at H
       have c14b0 : decide (0 ≤ x6_1) = true := decide_eq_true c14
       clear c14
       replace H := Option.bind_eq_some_iff.mp H
       obtain ⟨⟨t134, t135⟩, A150, H⟩ := H
       replace H : (if t135 = true then ((spec_l00In.f t134 (-1000000000000) 1000000000000).bind fun t136 => (if t136 = true then (if x5_1.length < 17592186044416 then (spec_ReadList.l0 k1 t127 (x5_1 ++ [t134]) (wrap64 (x6_1 + 1))) else (none)) else (some (([] : List Int), false)))) else (some (([] : List Int), false))) = some (r1, r2) := H
       have A15 := Aside0.mk A150
       clear A150
       by_cases c16 : t135 = true
       ·subst c16
        have H1 : ((spec_l00In.f t134 (-1000000000000) 1000000000000).bind fun t136 => (if t136 = true then (if x5_1.length < 17592186044416 then (spec_ReadList.l0 k1 t127 (x5_1 ++ [t134]) (wrap64 (x6_1 + 1))) else (none)) else (some (([] : List Int), false)))) = some (r1, r2) := by rw [if_pos rfl] at H; exact H
        clear H
        have H := H1
        clear H1
        replace H := Option.bind_eq_some_iff.mp H
        obtain ⟨t136, A170, H⟩ := H
        replace H : (if t136 = true then (if x5_1.length < 17592186044416 then (spec_ReadList.l0 k1 t127 (x5_1 ++ [t134]) (wrap64 (x6_1 + 1))) else (none)) else (some (([] : List Int), false))) = some (r1, r2) := H
        have A17 := Aside0.mk A170
        clear A170
        by_cases c18 : t136 = true
        ·subst c18
         have H1 : (if x5_1.length < 17592186044416 then (spec_ReadList.l0 k1 t127 (x5_1 ++ [t134]) (wrap64 (x6_1 + 1))) else (none)) = some (r1, r2) := by rw [if_pos rfl] at H; exact H
         clear H
         have H := H1
         clear H1
         by_cases c19 : x5_1.length < 17592186044416
         ·rw [if_pos c19] at H
          have LMc19 := Aside0.mk c19
          clear c19
          obtain ⟨y137, hy137⟩ : ∃ y_ : List Int, y_ = (x5_1 ++ [t134]) := ⟨_, rfl⟩
          replace H : (spec_ReadList.l0 k1 t127 y137 (wrap64 (x6_1 + 1))) = some (r1, r2) := by first | (rw [hy137]; with_reducible exact H) | (have H2_ := (Option.bind_some _ _).symm.trans H; rw [hy137]; with_reducible exact H2_) | (have H2_ := (Option.bind_some _ _).symm.trans H; with_reducible exact H2_) | with_reducible exact H | (rw [hy137]; exact H) | exact H
          have Ny137 := Aside0.mk hy137
          clear hy137
          have H' := Aside0.mk H
          clear H
          have p133 : 0 ≤ (x6_1 : Int) := oZ
          have q133 : x6_1 < (t127.length : Int) := oZ
          obtain ⟨ad133, e133, hx133_0⟩ := Kd.at_string (Kd.R_reads' HO_4.out).2.2 x6_1 p133 q133
          cases e133
          replace p133 := eq_true p133
          replace q133 := eq_true q133
          go_wp2_with (first | ((with_reducible refine gate_callee (f := 37) rfl ?_); refine goesL_ (some 29) rfl rfl Tryz.func37 (by kernel_rfl) rfl #[.string (rdOf ByteArray.empty t127 x6_1)] rfl gZ ?_; (with_reducible refine (spec_l01Number.calls k1 (rdOf ByteArray.empty t127 x6_1) t134 true _ A15.out).mono ?_); rintro e w' ⟨rfl, ⟨nd, rfl⟩⟩; refine ⟨_, rfl, ?_⟩) | (go_at_call 38; (with_reducible refine (spec_l00In.calls t134 (-1000000000000) 1000000000000 true _ A17.out).mono ?_); rintro e w' ⟨rfl, ⟨nd, rfl⟩⟩) | ((with_reducible refine gate_builtin (b := .append) (xs := #[.tmp 39, .tmp 41]) rfl ?_); at_builtin; refine Kd.R_append (Kd.int .i64) (w0 := w) w.heap.size rfl (.tmp 39) (.tmp 41) 39 2 (.int .i64 0) 8 rfl Tryz.underlying39 info2 rfl (by decide) (by omega) u5 x5_1 t134 [.int .i64 t134] (fun _ => True) (fun _ => False) rfl rfl ?aP (fun _ hk => hk.elim) ?aF ?aO ?aB ?aS ?aL ?_; (case aP => exact rfl); (case aB => exact bZ); (case aF => exact (fun _ _ => trivial)); (case aO => exact (Kd.rZ HO_5.out)); (case aS => exact bsZ); (case aL => have := LMc19.out; omega); intro v138 w20 ho hb hg hat; rw [← Ny137.out] at ho; have n0_ := Aside0.mk (Kd.R_over' (Kd.rZ HO_4.out) (Kd.R_typed (Kd.rZ HO_5.out)) (by decide) hg); have n1_ := Aside0.mk (hb); have n2_ := Aside0.mk (ho); clear HO_4; clear HB; clear HO_5; have HO_4 := n0_; have HB := n1_; have HO139 := n2_; clear n0_ n1_ n2_; clear ho hb hg hat))
          go_roundg k1
          case measure => have := HK1.out; omega
          case rel => exact ⟨(y137), (wrap64 (x6_1 + 1)), sZ, H', ⟨by have := HK1.out; omega⟩, ⟨Kd.rZ HO_4.out⟩, ⟨Kd.rZ HO139.out⟩, ⟨bZ⟩⟩
         ·rw [if_neg c19] at H
          exact absurd H (by simp)
        ·replace c18 := Bool.eq_false_iff.mpr c18
         subst c18
         have H1 : (some (([] : List Int), false)) = some (r1, r2) := by rw [if_neg (show ¬ (false = true) by decide)] at H; exact H
         clear H
         have H := H1
         clear H1
         simp only [Option.some.injEq, Prod.mk.injEq] at H
         obtain ⟨rfl, rfl⟩ := H
         have p133 : 0 ≤ (x6_1 : Int) := oZ
         have q133 : x6_1 < (t127.length : Int) := oZ
         obtain ⟨ad133, e133, hx133_0⟩ := Kd.at_string (Kd.R_reads' HO_4.out).2.2 x6_1 p133 q133
         cases e133
         replace p133 := eq_true p133
         replace q133 := eq_true q133
         go_wp2_with (first | ((with_reducible refine gate_callee (f := 37) rfl ?_); refine goesL_ (some 29) rfl rfl Tryz.func37 (by kernel_rfl) rfl #[.string (rdOf ByteArray.empty t127 x6_1)] rfl gZ ?_; (with_reducible refine (spec_l01Number.calls k1 (rdOf ByteArray.empty t127 x6_1) t134 true _ A15.out).mono ?_); rintro e w' ⟨rfl, ⟨nd, rfl⟩⟩; refine ⟨_, rfl, ?_⟩) | (go_at_call 38; (with_reducible refine (spec_l00In.calls t134 (-1000000000000) 1000000000000 false _ A17.out).mono ?_); rintro e w' ⟨rfl, ⟨nd, rfl⟩⟩))
         go_ret2
         exact ⟨_, eZ, by first | exact Kd.R_nil _ _ _ _ _ | exact Kd.N_nil _ _ _ _ _ | exact Kd.V_nil _ _ _ _ _ | exact Kd.Q_nil _ _ _ _ _ | exact Kd.S_nil _ _ _ _ _, bZ⟩
       ·replace c16 := Bool.eq_false_iff.mpr c16
        subst c16
        have H1 : (some (([] : List Int), false)) = some (r1, r2) := by rw [if_neg (show ¬ (false = true) by decide)] at H; exact H
        clear H
        have H := H1
        clear H1
        simp only [Option.some.injEq, Prod.mk.injEq] at H
        obtain ⟨rfl, rfl⟩ := H
        have p133 : 0 ≤ (x6_1 : Int) := oZ
        have q133 : x6_1 < (t127.length : Int) := oZ
        obtain ⟨ad133, e133, hx133_0⟩ := Kd.at_string (Kd.R_reads' HO_4.out).2.2 x6_1 p133 q133
        cases e133
        replace p133 := eq_true p133
        replace q133 := eq_true q133
        go_wp2_with (first | ((with_reducible refine gate_callee (f := 37) rfl ?_); refine goesL_ (some 29) rfl rfl Tryz.func37 (by kernel_rfl) rfl #[.string (rdOf ByteArray.empty t127 x6_1)] rfl gZ ?_; (with_reducible refine (spec_l01Number.calls k1 (rdOf ByteArray.empty t127 x6_1) t134 false _ A15.out).mono ?_); rintro e w' ⟨rfl, ⟨nd, rfl⟩⟩; refine ⟨_, rfl, ?_⟩))
        go_ret2
        exact ⟨_, eZ, by first | exact Kd.R_nil _ _ _ _ _ | exact Kd.N_nil _ _ _ _ _ | exact Kd.V_nil _ _ _ _ _ | exact Kd.Q_nil _ _ _ _ _ | exact Kd.S_nil _ _ _ _ _, bZ⟩
      ·rw [if_neg c14] at H
       exact absurd H (by simp)
     ·rw [if_neg c13] at H
      have c13b0 : decide (x6_1 < (t127.length : Int)) = false := decide_eq_false c13
      clear c13
      simp only [Option.some.injEq, Prod.mk.injEq] at H
      obtain ⟨rfl, rfl⟩ := H
      go_wp2
      go_ret2
      exact ⟨_, eZ, Kd.rZ HO_5.out, bZ⟩
end Go.Proofs.YtlbcnflcibmifaaGreatDoor.XT
end

section
namespace Go.Proofs.YtlbcnflcibmifaaGreatDoor.XT
open Go.RowKit Go.Proofs.YtlbcnflcibmifaaGreatDoorW.PrintWords Go.Proofs.YtlbcnflcibmifaaGreatDoorW.PrintLast Go.Proofs.YtlbcnflcibmifaaGreatDoorW.PrintMore
attribute [local go_sem] run_eql_slice_nil binOp_string_gtr' binOp_string_leq' binOp_string_geq' max2_int min2_int max_two min_two max_three min_three max_four min_four   -- for this text's walks alone
set_option linter.unusedVariables false
set_option linter.unusedSimpArgs false
def spec_l05Outdoor.f (a0 : Int) : Option (Bool) := (spec_l00In.f a0 (-4000) 4500).bind fun t140 => (some t140)
set_option maxHeartbeats 8000000 in
set_option maxRecDepth 100000 in
theorem spec_l05Outdoor.calls (a0 : Int) (r : Bool) (w : World) (h : spec_l05Outdoor.f a0 = some r) :
  Calls Tryz.prog 39 #[.int .i64 a0] w fun e w' => e = .returned (.bool r) ∧ Drawn0 w w' := by
 have H : ((spec_l00In.f a0 (-4000) 4500).bind fun t140 => (some t140)) = some r := h
 clear h
 replace H := Option.bind_eq_some_iff.mp H
 obtain ⟨t140, A20, H⟩ := H
 replace H : (some t140) = some r := H
 have A2 := Aside0.mk A20
 clear A20
 obtain rfl := Option.some.inj H
 go_enter Tryz.func39, Tryz.ntmps39
 go_wp2_with (first | ((with_reducible refine gate_callee (f := 38) rfl ?_); refine goesL_ (some 4) rfl rfl Tryz.func38 (by kernel_rfl) rfl #[.int .i64 a0, .int .i64 (-4000), .int .i64 4500] rfl gZ ?_; (with_reducible refine (spec_l00In.calls a0 (-4000) 4500 t140 _ A2.out).mono ?_); rintro e w' ⟨rfl, ⟨nd, rfl⟩⟩; refine ⟨_, rfl, ?_⟩))
 go_ret
 exact ⟨sZ, dZ⟩
end Go.Proofs.YtlbcnflcibmifaaGreatDoor.XT
end

section
namespace Go.Proofs.YtlbcnflcibmifaaGreatDoor.XT
open Go.RowKit Go.Proofs.YtlbcnflcibmifaaGreatDoorW.PrintWords Go.Proofs.YtlbcnflcibmifaaGreatDoorW.PrintLast Go.Proofs.YtlbcnflcibmifaaGreatDoorW.PrintMore
attribute [local go_sem] run_eql_slice_nil binOp_string_gtr' binOp_string_leq' binOp_string_geq' max2_int min2_int max_two min_two max_three min_three max_four min_four   -- for this text's walks alone
set_option linter.unusedVariables false
set_option linter.unusedSimpArgs false
mutual
def spec_l05One.j0 : Nat → Bool → ByteArray → Int → Int → Int → Int → List Int → Option (Bool)
 | 0, _, _, _, _, _, _, _ => none
 | k + 1, x49, x1000, x1001, x1002, x1003, x1004, x1005 => if x49 = true then (some false) else (spec_l05One.l0 k 0 x1000 x1001 x1002 x1003 x1004 x1005)
def spec_l05One.l0 : Nat → Int → ByteArray → Int → Int → Int → Int → List Int → Option (Bool)
 | 0, _, _, _, _, _, _, _ => none
 | k + 1, x3, x1000, x1001, x1002, x1003, x1004, x1005 => if x3 < (x1005.length : Int) then (if 0 ≤ x3 then ((spec_l00In.f (rd x1005 x3) 0 3000).bind fun t147 => (if t147 = true then (spec_l05One.l0 k (wrap64 (x3 + 1)) x1000 x1001 x1002 x1003 x1004 x1005) else (some false))) else (none)) else (some true)
end
def spec_l05One.f (k : Nat) (a0_0 : ByteArray) (a0_1 : Int) (a0_2 : Int) (a0_3 : Int) (a0_4 : Int) (l0_5 : List Int) : Option (Bool) := (spec_l01Name.f k a0_0).bind fun t141 => (if t141 = true then ((spec_l00In.f a0_1 0 15).bind fun t142 => (if t142 = true then ((spec_l00In.f a0_2 0 1000000).bind fun t143 => (if t143 = true then ((spec_l00In.f a0_3 0 100000).bind fun t144 => (if t144 = true then ((spec_l05Outdoor.f a0_4).bind fun t145 => (if t145 = true then (spec_l05One.j0 k ((l0_5.length : Int) != 24) a0_0 a0_1 a0_2 a0_3 a0_4 l0_5) else (spec_l05One.j0 k true a0_0 a0_1 a0_2 a0_3 a0_4 l0_5))) else (spec_l05One.j0 k true a0_0 a0_1 a0_2 a0_3 a0_4 l0_5))) else (spec_l05One.j0 k true a0_0 a0_1 a0_2 a0_3 a0_4 l0_5))) else (spec_l05One.j0 k true a0_0 a0_1 a0_2 a0_3 a0_4 l0_5))) else (spec_l05One.j0 k true a0_0 a0_1 a0_2 a0_3 a0_4 l0_5))
set_option maxHeartbeats 8000000 in
set_option maxRecDepth 100000 in
theorem spec_l05One.calls (k : Nat) (v0 : Addr) (a0_0 : ByteArray) (a0_1 : Int) (a0_2 : Int) (a0_3 : Int) (a0_4 : Int) (A0_5 : Option Addr) (c0_5 : Nat) (l0_5 : List Int) (r : Bool) (w : World) (hr0_5 : Kd.C (Kd.int .i64) w A0_5 l0_5.length l0_5) (hc0_5 : l0_5.length ≤ c0_5) (hv0 : ViewAt w v0 [.string a0_0, .int .i64 a0_1, .int .i64 a0_2, .int .i64 a0_3, .int .i64 a0_4, .slice A0_5 l0_5.length c0_5]) (h : spec_l05One.f k a0_0 a0_1 a0_2 a0_3 a0_4 l0_5 = some r) :
  Calls Tryz.prog 28 #[.pointer (some v0)] w fun e w' => e = .returned (.bool r) ∧ Drawn0 w w' := by
 have HR0_5 := Aside0.mk hr0_5
 have HC0_5 := Aside0.mk hc0_5
 clear hr0_5 hc0_5
 have HV0 := Aside0.mk hv0
 have hvw0_0 : w.cell? v0 = some (.string a0_0) := hv0.at0
 have hvw0_1 : w.cell? ⟨v0.block, v0.off + 1, none⟩ = some (.int .i64 a0_1) := hv0.at_ 1 (by decide) rfl
 have hvw0_2 : w.cell? ⟨v0.block, v0.off + 2, none⟩ = some (.int .i64 a0_2) := hv0.at_ 2 (by decide) rfl
 have hvw0_3 : w.cell? ⟨v0.block, v0.off + 3, none⟩ = some (.int .i64 a0_3) := hv0.at_ 3 (by decide) rfl
 have hvw0_4 : w.cell? ⟨v0.block, v0.off + 4, none⟩ = some (.int .i64 a0_4) := hv0.at_ 4 (by decide) rfl
 have hvw0_5 : w.cell? ⟨v0.block, v0.off + 5, none⟩ = some (.slice A0_5 l0_5.length c0_5) := hv0.at_ 5 (by decide) rfl
 clear hv0
 have H : ((spec_l01Name.f k a0_0).bind fun t141 => (if t141 = true then ((spec_l00In.f a0_1 0 15).bind fun t142 => (if t142 = true then ((spec_l00In.f a0_2 0 1000000).bind fun t143 => (if t143 = true then ((spec_l00In.f a0_3 0 100000).bind fun t144 => (if t144 = true then ((spec_l05Outdoor.f a0_4).bind fun t145 => (if t145 = true then (spec_l05One.j0 k ((l0_5.length : Int) != 24) a0_0 a0_1 a0_2 a0_3 a0_4 l0_5) else (spec_l05One.j0 k true a0_0 a0_1 a0_2 a0_3 a0_4 l0_5))) else (spec_l05One.j0 k true a0_0 a0_1 a0_2 a0_3 a0_4 l0_5))) else (spec_l05One.j0 k true a0_0 a0_1 a0_2 a0_3 a0_4 l0_5))) else (spec_l05One.j0 k true a0_0 a0_1 a0_2 a0_3 a0_4 l0_5))) else (spec_l05One.j0 k true a0_0 a0_1 a0_2 a0_3 a0_4 l0_5))) = some r := h
 clear h
 have HC2 := Aside0.mk H
 clear H
 go_enter Tryz.func28, Tryz.ntmps28
 go_upto_region 1 with (fail)
 go_cut [49] (fun v49 wc => ∃ (kq : Nat) (x49_1 : Bool), v49 = .bool x49_1 ∧ Aside0 (spec_l05One.j0 kq x49_1 a0_0 a0_1 a0_2 a0_3 a0_4 l0_5 = some r) ∧ Aside0 (kq ≤ k) ∧ Drawn0 w wc)
 case first =>
  have H := HC2.out
  clear HC2
  replace H := Option.bind_eq_some_iff.mp H
  obtain ⟨t141, A30, H⟩ := H
  replace H : (if t141 = true then ((spec_l00In.f a0_1 0 15).bind fun t142 => (if t142 = true then ((spec_l00In.f a0_2 0 1000000).bind fun t143 => (if t143 = true then ((spec_l00In.f a0_3 0 100000).bind fun t144 => (if t144 = true then ((spec_l05Outdoor.f a0_4).bind fun t145 => (if t145 = true then (spec_l05One.j0 k ((l0_5.length : Int) != 24) a0_0 a0_1 a0_2 a0_3 a0_4 l0_5) else (spec_l05One.j0 k true a0_0 a0_1 a0_2 a0_3 a0_4 l0_5))) else (spec_l05One.j0 k true a0_0 a0_1 a0_2 a0_3 a0_4 l0_5))) else (spec_l05One.j0 k true a0_0 a0_1 a0_2 a0_3 a0_4 l0_5))) else (spec_l05One.j0 k true a0_0 a0_1 a0_2 a0_3 a0_4 l0_5))) else (spec_l05One.j0 k true a0_0 a0_1 a0_2 a0_3 a0_4 l0_5)) = some r := H
  have A3 := Aside0.mk A30
  clear A30
  by_cases c4 : t141 = true
  ·subst c4
   have H1 : ((spec_l00In.f a0_1 0 15).bind fun t142 => (if t142 = true then ((spec_l00In.f a0_2 0 1000000).bind fun t143 => (if t143 = true then ((spec_l00In.f a0_3 0 100000).bind fun t144 => (if t144 = true then ((spec_l05Outdoor.f a0_4).bind fun t145 => (if t145 = true then (spec_l05One.j0 k ((l0_5.length : Int) != 24) a0_0 a0_1 a0_2 a0_3 a0_4 l0_5) else (spec_l05One.j0 k true a0_0 a0_1 a0_2 a0_3 a0_4 l0_5))) else (spec_l05One.j0 k true a0_0 a0_1 a0_2 a0_3 a0_4 l0_5))) else (spec_l05One.j0 k true a0_0 a0_1 a0_2 a0_3 a0_4 l0_5))) else (spec_l05One.j0 k true a0_0 a0_1 a0_2 a0_3 a0_4 l0_5))) = some r := by rw [if_pos rfl] at H; exact H
   clear H
   have H := H1
   clear H1
   replace H := Option.bind_eq_some_iff.mp H
   obtain ⟨t142, A50, H⟩ := H
   replace H : (if t142 = true then ((spec_l00In.f a0_2 0 1000000).bind fun t143 => (if t143 = true then ((spec_l00In.f a0_3 0 100000).bind fun t144 => (if t144 = true then ((spec_l05Outdoor.f a0_4).bind fun t145 => (if t145 = true then (spec_l05One.j0 k ((l0_5.length : Int) != 24) a0_0 a0_1 a0_2 a0_3 a0_4 l0_5) else (spec_l05One.j0 k true a0_0 a0_1 a0_2 a0_3 a0_4 l0_5))) else (spec_l05One.j0 k true a0_0 a0_1 a0_2 a0_3 a0_4 l0_5))) else (spec_l05One.j0 k true a0_0 a0_1 a0_2 a0_3 a0_4 l0_5))) else (spec_l05One.j0 k true a0_0 a0_1 a0_2 a0_3 a0_4 l0_5)) = some r := H
   have A5 := Aside0.mk A50
   clear A50
   by_cases c6 : t142 = true
   ·subst c6
    have H1 : ((spec_l00In.f a0_2 0 1000000).bind fun t143 => (if t143 = true then ((spec_l00In.f a0_3 0 100000).bind fun t144 => (if t144 = true then ((spec_l05Outdoor.f a0_4).bind fun t145 => (if t145 = true then (spec_l05One.j0 k ((l0_5.length : Int) != 24) a0_0 a0_1 a0_2 a0_3 a0_4 l0_5) else (spec_l05One.j0 k true a0_0 a0_1 a0_2 a0_3 a0_4 l0_5))) else (spec_l05One.j0 k true a0_0 a0_1 a0_2 a0_3 a0_4 l0_5))) else (spec_l05One.j0 k true a0_0 a0_1 a0_2 a0_3 a0_4 l0_5))) = some r := by rw [if_pos rfl] at H; exact H
    clear H
    have H := H1
    clear H1
    replace H := Option.bind_eq_some_iff.mp H
    obtain ⟨t143, A70, H⟩ := H
    replace H : (if t143 = true then ((spec_l00In.f a0_3 0 100000).bind fun t144 => (if t144 = true then ((spec_l05Outdoor.f a0_4).bind fun t145 => (if t145 = true then (spec_l05One.j0 k ((l0_5.length : Int) != 24) a0_0 a0_1 a0_2 a0_3 a0_4 l0_5) else (spec_l05One.j0 k true a0_0 a0_1 a0_2 a0_3 a0_4 l0_5))) else (spec_l05One.j0 k true a0_0 a0_1 a0_2 a0_3 a0_4 l0_5))) else (spec_l05One.j0 k true a0_0 a0_1 a0_2 a0_3 a0_4 l0_5)) = some r := H
    have A7 := Aside0.mk A70
    clear A70
    by_cases c8 : t143 = true
    ·subst c8
     have H1 : ((spec_l00In.f a0_3 0 100000).bind fun t144 => (if t144 = true then ((spec_l05Outdoor.f a0_4).bind fun t145 => (if t145 = true then (spec_l05One.j0 k ((l0_5.length : Int) != 24) a0_0 a0_1 a0_2 a0_3 a0_4 l0_5) else (spec_l05One.j0 k true a0_0 a0_1 a0_2 a0_3 a0_4 l0_5))) else (spec_l05One.j0 k true a0_0 a0_1 a0_2 a0_3 a0_4 l0_5))) = some r := by rw [if_pos rfl] at H; exact H
     clear H
     have H := H1
     clear H1
     replace H := Option.bind_eq_some_iff.mp H
     obtain ⟨t144, A90, H⟩ := H
     replace H : (if t144 = true then ((spec_l05Outdoor.f a0_4).bind fun t145 => (if t145 = true then (spec_l05One.j0 k ((l0_5.length : Int) != 24) a0_0 a0_1 a0_2 a0_3 a0_4 l0_5) else (spec_l05One.j0 k true a0_0 a0_1 a0_2 a0_3 a0_4 l0_5))) else (spec_l05One.j0 k true a0_0 a0_1 a0_2 a0_3 a0_4 l0_5)) = some r := H
     have A9 := Aside0.mk A90
     clear A90
     by_cases c10 : t144 = true
     ·subst c10
      have H1 : ((spec_l05Outdoor.f a0_4).bind fun t145 => (if t145 = true then (spec_l05One.j0 k ((l0_5.length : Int) != 24) a0_0 a0_1 a0_2 a0_3 a0_4 l0_5) else (spec_l05One.j0 k true a0_0 a0_1 a0_2 a0_3 a0_4 l0_5))) = some r := by rw [if_pos rfl] at H; exact H
      clear H
      have H := H1
      clear H1
      replace H := Option.bind_eq_some_iff.mp H
      obtain ⟨t145, A110, H⟩ := H
      replace H : (if t145 = true then (spec_l05One.j0 k ((l0_5.length : Int) != 24) a0_0 a0_1 a0_2 a0_3 a0_4 l0_5) else (spec_l05One.j0 k true a0_0 a0_1 a0_2 a0_3 a0_4 l0_5)) = some r := H
      have A11 := Aside0.mk A110
      clear A110
      by_cases c12 : t145 = true
      ·subst c12
       have H1 : (spec_l05One.j0 k ((l0_5.length : Int) != 24) a0_0 a0_1 a0_2 a0_3 a0_4 l0_5) = some r := by rw [if_pos rfl] at H; exact H
       clear H
       have H := H1
       clear H1
       have H' := Aside0.mk H
       clear H
       go_wp2_with (first | ((with_reducible refine gate_callee (f := 36) rfl ?_); refine goesL_ (some 8) rfl rfl Tryz.func36 (by kernel_rfl) rfl #[.string a0_0] rfl gZ ?_; (with_reducible refine (spec_l01Name.calls k a0_0 true _ A3.out).mono ?_); rintro e w' ⟨rfl, ⟨nd, rfl⟩⟩; refine ⟨_, rfl, ?_⟩) | (go_at_call 38; (with_reducible refine (spec_l00In.calls a0_1 0 15 true _ A5.out).mono ?_); rintro e w' ⟨rfl, ⟨nd, rfl⟩⟩) | (go_at_call 38; (with_reducible refine (spec_l00In.calls a0_2 0 1000000 true _ A7.out).mono ?_); rintro e w' ⟨rfl, ⟨nd, rfl⟩⟩) | (go_at_call 38; (with_reducible refine (spec_l00In.calls a0_3 0 100000 true _ A9.out).mono ?_); rintro e w' ⟨rfl, ⟨nd, rfl⟩⟩) | (go_at_call 39; (with_reducible refine (spec_l05Outdoor.calls a0_4 true _ A11.out).mono ?_); rintro e w' ⟨rfl, ⟨nd, rfl⟩⟩))
       go_meet
       case rel => exact ⟨_, (((l0_5.length : Int) != 24)), sZ, H', ⟨by first | omega | exact Nat.le_refl _⟩, dZ⟩
      ·replace c12 := Bool.eq_false_iff.mpr c12
       subst c12
       have H1 : (spec_l05One.j0 k true a0_0 a0_1 a0_2 a0_3 a0_4 l0_5) = some r := by rw [if_neg (show ¬ (false = true) by decide)] at H; exact H
       clear H
       have H := H1
       clear H1
       have H' := Aside0.mk H
       clear H
       go_wp2_with (first | ((with_reducible refine gate_callee (f := 36) rfl ?_); refine goesL_ (some 8) rfl rfl Tryz.func36 (by kernel_rfl) rfl #[.string a0_0] rfl gZ ?_; (with_reducible refine (spec_l01Name.calls k a0_0 true _ A3.out).mono ?_); rintro e w' ⟨rfl, ⟨nd, rfl⟩⟩; refine ⟨_, rfl, ?_⟩) | (go_at_call 38; (with_reducible refine (spec_l00In.calls a0_1 0 15 true _ A5.out).mono ?_); rintro e w' ⟨rfl, ⟨nd, rfl⟩⟩) | (go_at_call 38; (with_reducible refine (spec_l00In.calls a0_2 0 1000000 true _ A7.out).mono ?_); rintro e w' ⟨rfl, ⟨nd, rfl⟩⟩) | (go_at_call 38; (with_reducible refine (spec_l00In.calls a0_3 0 100000 true _ A9.out).mono ?_); rintro e w' ⟨rfl, ⟨nd, rfl⟩⟩) | (go_at_call 39; (with_reducible refine (spec_l05Outdoor.calls a0_4 false _ A11.out).mono ?_); rintro e w' ⟨rfl, ⟨nd, rfl⟩⟩))
       go_meet
       case rel => exact ⟨_, (true), sZ, H', ⟨by first | omega | exact Nat.le_refl _⟩, dZ⟩
     ·replace c10 := Bool.eq_false_iff.mpr c10
      subst c10
      have H1 : (spec_l05One.j0 k true a0_0 a0_1 a0_2 a0_3 a0_4 l0_5) = some r := by rw [if_neg (show ¬ (false = true) by decide)] at H; exact H
      clear H
      have H := H1
      clear H1
      have H' := Aside0.mk H
      clear H
      go_wp2_with (first | ((with_reducible refine gate_callee (f := 36) rfl ?_); refine goesL_ (some 8) rfl rfl Tryz.func36 (by kernel_rfl) rfl #[.string a0_0] rfl gZ ?_; (with_reducible refine (spec_l01Name.calls k a0_0 true _ A3.out).mono ?_); rintro e w' ⟨rfl, ⟨nd, rfl⟩⟩; refine ⟨_, rfl, ?_⟩) | (go_at_call 38; (with_reducible refine (spec_l00In.calls a0_1 0 15 true _ A5.out).mono ?_); rintro e w' ⟨rfl, ⟨nd, rfl⟩⟩) | (go_at_call 38; (with_reducible refine (spec_l00In.calls a0_2 0 1000000 true _ A7.out).mono ?_); rintro e w' ⟨rfl, ⟨nd, rfl⟩⟩) | (go_at_call 38; (with_reducible refine (spec_l00In.calls a0_3 0 100000 false _ A9.out).mono ?_); rintro e w' ⟨rfl, ⟨nd, rfl⟩⟩))
      go_meet
      case rel => exact ⟨_, (true), sZ, H', ⟨by first | omega | exact Nat.le_refl _⟩, dZ⟩
    ·replace c8 := Bool.eq_false_iff.mpr c8
     subst c8
     have H1 : (spec_l05One.j0 k true a0_0 a0_1 a0_2 a0_3 a0_4 l0_5) = some r := by rw [if_neg (show ¬ (false = true) by decide)] at H; exact H
     clear H
     have H := H1
     clear H1
     have H' := Aside0.mk H
     clear H
     go_wp2_with (first | ((with_reducible refine gate_callee (f := 36) rfl ?_); refine goesL_ (some 8) rfl rfl Tryz.func36 (by kernel_rfl) rfl #[.string a0_0] rfl gZ ?_; (with_reducible refine (spec_l01Name.calls k a0_0 true _ A3.out).mono ?_); rintro e w' ⟨rfl, ⟨nd, rfl⟩⟩; refine ⟨_, rfl, ?_⟩) | (go_at_call 38; (with_reducible refine (spec_l00In.calls a0_1 0 15 true _ A5.out).mono ?_); rintro e w' ⟨rfl, ⟨nd, rfl⟩⟩) | (go_at_call 38; (with_reducible refine (spec_l00In.calls a0_2 0 1000000 false _ A7.out).mono ?_); rintro e w' ⟨rfl, ⟨nd, rfl⟩⟩))
     go_meet
     case rel => exact ⟨_, (true), sZ, H', ⟨by first | omega | exact Nat.le_refl _⟩, dZ⟩
   ·replace c6 := Bool.eq_false_iff.mpr c6
    subst c6
    have H1 : (spec_l05One.j0 k true a0_0 a0_1 a0_2 a0_3 a0_4 l0_5) = some r := by rw [if_neg (show ¬ (false = true) by decide)] at H; exact H
    clear H
    have H := H1
    clear H1
    have H' := Aside0.mk H
    clear H
    go_wp2_with (first | ((with_reducible refine gate_callee (f := 36) rfl ?_); refine goesL_ (some 8) rfl rfl Tryz.func36 (by kernel_rfl) rfl #[.string a0_0] rfl gZ ?_; (with_reducible refine (spec_l01Name.calls k a0_0 true _ A3.out).mono ?_); rintro e w' ⟨rfl, ⟨nd, rfl⟩⟩; refine ⟨_, rfl, ?_⟩) | (go_at_call 38; (with_reducible refine (spec_l00In.calls a0_1 0 15 false _ A5.out).mono ?_); rintro e w' ⟨rfl, ⟨nd, rfl⟩⟩))
    go_meet
    case rel => exact ⟨_, (true), sZ, H', ⟨by first | omega | exact Nat.le_refl _⟩, dZ⟩
  ·replace c4 := Bool.eq_false_iff.mpr c4
   subst c4
   have H1 : (spec_l05One.j0 k true a0_0 a0_1 a0_2 a0_3 a0_4 l0_5) = some r := by rw [if_neg (show ¬ (false = true) by decide)] at H; exact H
   clear H
   have H := H1
   clear H1
   have H' := Aside0.mk H
   clear H
   go_wp2_with (first | ((with_reducible refine gate_callee (f := 36) rfl ?_); refine goesL_ (some 8) rfl rfl Tryz.func36 (by kernel_rfl) rfl #[.string a0_0] rfl gZ ?_; (with_reducible refine (spec_l01Name.calls k a0_0 false _ A3.out).mono ?_); rintro e w' ⟨rfl, ⟨nd, rfl⟩⟩; refine ⟨_, rfl, ?_⟩))
   go_meet
   case rel => exact ⟨_, (true), sZ, H', ⟨by first | omega | exact Nat.le_refl _⟩, dZ⟩
 case rest =>
  clear HC2; (try clear c1); (try clear c2); (try clear p2); (try clear c3); (try clear c4); (try clear c6); (try clear c8); (try clear c10); (try clear c12)
  obtain ⟨kq, x49_1, rfl, HA, HJ1, ⟨mc1, rfl⟩⟩ := hcut
  cases kq with
  | zero => exact absurd HA.out (by simp [spec_l05One.j0])
  | succ kj1 =>
   have H := HA.out
   clear HA
   simp only [spec_l05One.j0] at H
   by_cases c13 : x49_1 = true
   ·subst c13
    have H1 : (some false) = some r := by rw [if_pos rfl] at H; exact H
    clear H
    have H := H1
    clear H1
    obtain rfl := Option.some.inj H
    go_wp2
    go_ret
    exact ⟨sZ, dZ⟩
   ·replace c13 := Bool.eq_false_iff.mpr c13
    subst c13
    have H1 : (spec_l05One.l0 kj1 0 a0_0 a0_1 a0_2 a0_3 a0_4 l0_5) = some r := by rw [if_neg (show ¬ (false = true) by decide)] at H; exact H
    clear H
    have H := H1
    clear H1
    have H' := Aside0.mk H
    clear H
    go_wp2
    go_loopg [3] kj1 (fun kq v3 w' => ∃ (x3_2 : Int), v3 = .int .i64 x3_2 ∧ Aside0 (spec_l05One.l0 kq x3_2 a0_0 a0_1 a0_2 a0_3 a0_4 l0_5 = some r) ∧ Aside0 (kq ≤ kj1) ∧ Drawn0 w w')
    case atStart => exact ⟨(0), sZ, H', ⟨Nat.le_refl _⟩, dZ⟩
    case round =>
     clear H'; (try clear c1); (try clear c2); (try clear p2); (try clear c3); (try clear c4); (try clear c6); (try clear c8); (try clear c10); (try clear c12); (try clear c13); (try clear p2)
     obtain ⟨x3_2, rfl, HA, HK2, ⟨m2, rfl⟩⟩ := hrel
     cases gk with
     | zero => exact absurd HA.out (by simp [spec_l05One.l0])
     | succ k2 =>
      have H := HA.out
      clear HA
      simp only [spec_l05One.l0] at H
      by_cases c14 : x3_2 < (l0_5.length : Int)
      ·rw [if_pos c14] at H
       have c14b0 : decide (x3_2 < (l0_5.length : Int)) = true := decide_eq_true c14
       clear c14
       by_cases c15 : 0 ≤ x3_2
       ·rw [if_pos c15] at H
        have c15b0 : decide (0 ≤ x3_2) = true := decide_eq_true c15
        clear c15
        replace H := Option.bind_eq_some_iff.mp H
        obtain ⟨t147, A160, H⟩ := H
        replace H : (if t147 = true then (spec_l05One.l0 k2 (wrap64 (x3_2 + 1)) a0_0 a0_1 a0_2 a0_3 a0_4 l0_5) else (some false)) = some r := H
        have A16 := Aside0.mk A160
        clear A160
        by_cases c17 : t147 = true
        ·subst c17
         have H1 : (spec_l05One.l0 k2 (wrap64 (x3_2 + 1)) a0_0 a0_1 a0_2 a0_3 a0_4 l0_5) = some r := by rw [if_pos rfl] at H; exact H
         clear H
         have H := H1
         clear H1
         have H' := Aside0.mk H
         clear H
         have p146 : 0 ≤ (x3_2 : Int) := oZ
         have q146 : x3_2 < (l0_5.length : Int) := oZ
         obtain ⟨ad146, e146, hx146_0⟩ := Kd.at_int HR0_5.out x3_2 p146 q146
         cases e146
         replace p146 := eq_true p146
         replace q146 := eq_true q146
         go_wp2_with (first | ((with_reducible refine gate_callee (f := 38) rfl ?_); refine goesL_ (some 66) rfl rfl Tryz.func38 (by kernel_rfl) rfl #[.int .i64 (rd l0_5 x3_2), .int .i64 0, .int .i64 3000] rfl gZ ?_; (with_reducible refine (spec_l00In.calls (rd l0_5 x3_2) 0 3000 true _ A16.out).mono ?_); rintro e w' ⟨rfl, ⟨nd, rfl⟩⟩; refine ⟨_, rfl, ?_⟩))
         go_roundg k2
         case measure => have := HJ1.out; have := HK2.out; omega
         case rel => exact ⟨(wrap64 (x3_2 + 1)), sZ, H', ⟨by have := HJ1.out; have := HK2.out; omega⟩, dZ⟩
        ·replace c17 := Bool.eq_false_iff.mpr c17
         subst c17
         have H1 : (some false) = some r := by rw [if_neg (show ¬ (false = true) by decide)] at H; exact H
         clear H
         have H := H1
         clear H1
         obtain rfl := Option.some.inj H
         have p146 : 0 ≤ (x3_2 : Int) := oZ
         have q146 : x3_2 < (l0_5.length : Int) := oZ
         obtain ⟨ad146, e146, hx146_0⟩ := Kd.at_int HR0_5.out x3_2 p146 q146
         cases e146
         replace p146 := eq_true p146
         replace q146 := eq_true q146
         go_wp2_with (first | ((with_reducible refine gate_callee (f := 38) rfl ?_); refine goesL_ (some 66) rfl rfl Tryz.func38 (by kernel_rfl) rfl #[.int .i64 (rd l0_5 x3_2), .int .i64 0, .int .i64 3000] rfl gZ ?_; (with_reducible refine (spec_l00In.calls (rd l0_5 x3_2) 0 3000 false _ A16.out).mono ?_); rintro e w' ⟨rfl, ⟨nd, rfl⟩⟩; refine ⟨_, rfl, ?_⟩))
         go_ret
         exact ⟨sZ, dZ⟩
       ·rw [if_neg c15] at H
        exact absurd H (by simp)
      ·rw [if_neg c14] at H
       have c14b0 : decide (x3_2 < (l0_5.length : Int)) = false := decide_eq_false c14
       clear c14
       obtain rfl := Option.some.inj H
       go_wp2
       go_ret
       exact ⟨sZ, dZ⟩
end Go.Proofs.YtlbcnflcibmifaaGreatDoor.XT
end

section
namespace Go.Proofs.YtlbcnflcibmifaaGreatDoor.XT
open Go.RowKit Go.Proofs.YtlbcnflcibmifaaGreatDoorW.PrintWords Go.Proofs.YtlbcnflcibmifaaGreatDoorW.PrintLast Go.Proofs.YtlbcnflcibmifaaGreatDoorW.PrintMore
attribute [local go_sem] run_eql_slice_nil binOp_string_gtr' binOp_string_leq' binOp_string_geq' max2_int min2_int max_two min_two max_three min_three max_four min_four   -- for this text's walks alone
set_option linter.unusedVariables false
set_option linter.unusedSimpArgs false
def spec_ReadBuilding.j0 : Nat → List ByteArray → List Int → List Int → Bool → Option (ByteArray × Int × Int × Int × Int × List Int × Bool)
 | 0, _, _, _, _ => none
 | k + 1, x4, x5, x7, x40 => if x40 = true then (some ((⟨#[]⟩ : ByteArray), 0, 0, 0, 0, ([] : List Int), false)) else (if 0 < (x4.length : Int) then (if 0 < (x5.length : Int) then (if 1 < (x5.length : Int) then (if 2 < (x5.length : Int) then (if 3 < (x5.length : Int) then ((spec_l05One.f k (rdOf ByteArray.empty x4 0) (rd x5 0) (rd x5 1) (rd x5 2) (rd x5 3) x7).bind fun t168 => (if t168 = true then (some (rdOf ByteArray.empty x4 0, rd x5 0, rd x5 1, rd x5 2, rd x5 3, x7, true)) else (some ((⟨#[]⟩ : ByteArray), 0, 0, 0, 0, ([] : List Int), false)))) else (none)) else (none)) else (none)) else (none)) else (none))
def spec_ReadBuilding.f (k : Nat) (a0 : ByteArray) : Option (ByteArray × Int × Int × Int × Int × List Int × Bool) := (spec_l01Split.f k a0 32).bind fun t149 => (if (t149.length : Int) = 3 then (if 1 < (t149.length : Int) then ((spec_ReadList.f k (rdOf ByteArray.empty t149 1)).bind fun bt153 => (if 2 < (t149.length : Int) then ((spec_ReadList.f k (rdOf ByteArray.empty t149 2)).bind fun bt158 => (if bt153.2 = true then (if bt158.2 = true then (spec_ReadBuilding.j0 k t149 bt153.1 bt158.1 ((bt153.1.length : Int) != 4)) else (spec_ReadBuilding.j0 k t149 bt153.1 bt158.1 true)) else (spec_ReadBuilding.j0 k t149 bt153.1 bt158.1 true))) else (none))) else (none)) else (some ((⟨#[]⟩ : ByteArray), 0, 0, 0, 0, ([] : List Int), false)))
def spec_ReadBuilding.T8 : Bool × List (List Nat × List Nat) := (true, [([], []), ([0], [0]), ([1], [1]), ([], []), ([3], [3]), ([4], [4]), ([], []), ([6], [6]), ([7], [7]), ([], []), ([9], [9]), ([10], [10]), ([], []), ([12], [12]), ([13], [13]), ([], []), ([2, 5, 8, 11, 14, 15], [2, 5, 8, 11, 14, 15]), ([], []), ([17, 16, 0, 1, 2, 3, 4, 5, 6, 7, 8, 9, 10, 11, 12, 13, 14, 15, 16, 17], [16, 17])])
def spec_ReadBuilding.B8 : List Nat := [0, 1, 3, 0, 8, 24, 0, 64, 192, 0, 512, 1536, 0, 4096, 12288, 0, 65535, 0, 262143]
theorem spec_ReadBuilding.tab8 : rtab .any (opsOf Tryz.f15 8) = spec_ReadBuilding.T8 := by kernel_rfl
theorem spec_ReadBuilding.bits8 : waitsOk spec_ReadBuilding.T8.2 spec_ReadBuilding.B8 = true := by kernel_rfl
set_option maxHeartbeats 8000000 in
set_option maxRecDepth 100000 in
theorem spec_ReadBuilding.calls (k : Nat) (a0 : ByteArray) (r1 : ByteArray) (r2 : Int) (r3 : Int) (r4 : Int) (r5 : Int) (r6 : List Int) (r7 : Bool) (w : World) (h : spec_ReadBuilding.f k a0 = some (r1, r2, r3, r4, r5, r6, r7)) :
  Calls Tryz.prog 15 #[.string a0] w fun e w' => ∃ v5_ : Value, e = .returned (.tuple #[.agg #[.string r1, .int .i64 r2, .int .i64 r3, .int .i64 r4, .int .i64 r5, v5_], .bool r7]) ∧ Kd.R (Kd.int .i64) 2 w' w.heap.size (fun _ => True) v5_ r6 ∧ Below w.heap.size w w' := by
 have hu41 := Tryz.underlying41
 have HB := Aside0.mk (Below.refl w.heap.size w)
 have H : ((spec_l01Split.f k a0 32).bind fun t149 => (if (t149.length : Int) = 3 then (if 1 < (t149.length : Int) then ((spec_ReadList.f k (rdOf ByteArray.empty t149 1)).bind fun bt153 => (if 2 < (t149.length : Int) then ((spec_ReadList.f k (rdOf ByteArray.empty t149 2)).bind fun bt158 => (if bt153.2 = true then (if bt158.2 = true then (spec_ReadBuilding.j0 k t149 bt153.1 bt158.1 ((bt153.1.length : Int) != 4)) else (spec_ReadBuilding.j0 k t149 bt153.1 bt158.1 true)) else (spec_ReadBuilding.j0 k t149 bt153.1 bt158.1 true))) else (none))) else (none)) else (some ((⟨#[]⟩ : ByteArray), 0, 0, 0, 0, ([] : List Int), false)))) = some (r1, r2, r3, r4, r5, r6, r7) := h
 clear h
 replace H := Option.bind_eq_some_iff.mp H
 obtain ⟨t149, A20, H⟩ := H
 replace H : (if (t149.length : Int) = 3 then (if 1 < (t149.length : Int) then ((spec_ReadList.f k (rdOf ByteArray.empty t149 1)).bind fun bt153 => (if 2 < (t149.length : Int) then ((spec_ReadList.f k (rdOf ByteArray.empty t149 2)).bind fun bt158 => (if bt153.2 = true then (if bt158.2 = true then (spec_ReadBuilding.j0 k t149 bt153.1 bt158.1 ((bt153.1.length : Int) != 4)) else (spec_ReadBuilding.j0 k t149 bt153.1 bt158.1 true)) else (spec_ReadBuilding.j0 k t149 bt153.1 bt158.1 true))) else (none))) else (none)) else (some ((⟨#[]⟩ : ByteArray), 0, 0, 0, 0, ([] : List Int), false))) = some (r1, r2, r3, r4, r5, r6, r7) := H
 have A2 := Aside0.mk A20
 clear A20
 by_cases c3 : (t149.length : Int) = 3
 ·rw [if_pos c3] at H
  have c3b0 : ((t149.length : Int) == 3) = true := beq_iff_eq.mpr c3
  have c3b1 : ((t149.length : Int) != 3) = false := bne_eq_false_iff_eq.mpr c3
  clear c3
  by_cases c4 : 1 < (t149.length : Int)
  ·rw [if_pos c4] at H
   have c4b0 : decide (1 < (t149.length : Int)) = true := decide_eq_true c4
   have c4b1 : decide (1 < t149.length) = true := decide_eq_true (by omega)
   clear c4
   replace H := Option.bind_eq_some_iff.mp H
   obtain ⟨⟨t153, t154⟩, A50, H⟩ := H
   replace H : (if 2 < (t149.length : Int) then ((spec_ReadList.f k (rdOf ByteArray.empty t149 2)).bind fun bt158 => (if t154 = true then (if bt158.2 = true then (spec_ReadBuilding.j0 k t149 t153 bt158.1 ((t153.length : Int) != 4)) else (spec_ReadBuilding.j0 k t149 t153 bt158.1 true)) else (spec_ReadBuilding.j0 k t149 t153 bt158.1 true))) else (none)) = some (r1, r2, r3, r4, r5, r6, r7) := H
   have A5 := Aside0.mk A50
   clear A50
   by_cases c6 : 2 < (t149.length : Int)
   ·rw [if_pos c6] at H
    have c6b0 : decide (2 < (t149.length : Int)) = true := decide_eq_true c6
    have c6b1 : decide (2 < t149.length) = true := decide_eq_true (by omega)
    clear c6
    replace H := Option.bind_eq_some_iff.mp H
    obtain ⟨⟨t158, t159⟩, A70, H⟩ := H
    replace H : (if t154 = true then (if t159 = true then (spec_ReadBuilding.j0 k t149 t153 t158 ((t153.length : Int) != 4)) else (spec_ReadBuilding.j0 k t149 t153 t158 true)) else (spec_ReadBuilding.j0 k t149 t153 t158 true)) = some (r1, r2, r3, r4, r5, r6, r7) := H
    have A7 := Aside0.mk A70
    clear A70
    have HC8 := Aside0.mk H
    clear H
    go_enter Tryz.func15, Tryz.ntmps15
    go_upto_region 6 with (first | ((with_reducible refine gate_dst (N := 2) rfl ?_); (try (refine gate_guard (by rfl) ?_; dsimp only)); refine boxZ 2 #[.string (⟨#[]⟩ : ByteArray), .int .i64 0, .int .i64 0, .int .i64 0, .int .i64 0, .slice none 0 0] 41 rfl rfl ?_; intro gb148 hg w9 hbox hb; have n0_ := Aside0.mk (below_step bZ hb); have n1_ := Aside0.mk (hbox); have n2_ := Aside0.mk ((by rw [hg]; exact bsZ : w.heap.size ≤ gb148)); have n3_ := Aside0.mk ((by rw [hg]; exact bsZ : w.heap.size ≤ gb148)); clear HB; have HB := n0_; have BK148 := n1_; have GW148 := n2_; have GE148 := n3_; clear n0_ n1_ n2_ n3_; clear hb hbox hg) | ((with_reducible refine gate_callee (f := 26) rfl ?_); refine goesL_ (some 11) rfl rfl Tryz.func26 (by kernel_rfl) rfl #[.string a0, .int .u8 32] rfl gZ ?_; (with_reducible refine (spec_l01Split.calls k a0 32 t149 _ A2.out).mono ?_); rintro e w10 ⟨v150, rfl, ho0, hb⟩; refine ⟨_, rfl, ?_⟩; have n0_ := Aside0.mk (Kd.R_lower ho0 bsZ); have n1_ := Aside0.mk (blk_below (g := gb148) (o := .cells #[.string (⟨#[]⟩ : ByteArray), .int .i64 0, .int .i64 0, .int .i64 0, .int .i64 0, .slice none 0 0] 41 (0, 0)) (kZ BK148.out) hb); have n2_ := Aside0.mk (below_step bZ hb); clear BK148; clear HB; have HO151 := n0_; have BK148 := n1_; have HB := n2_; clear n0_ n1_ n2_; (try clear hb); (try clear hb2); (try clear hk); (try clear hi); (try clear ho0); obtain ⟨Ao11, co11, eo11⟩ := Kd.R_slice HO151.out; subst eo11; have p152 : 0 ≤ (1 : Int) := (by omega); have q152 : 1 < (t149.length : Int) := oZ; obtain ⟨ad152, e152, hx152_0⟩ := Kd.at_string (Kd.R_reads' HO151.out).2.2 1 p152 q152; cases e152; (try simp only [show (1 : Int).toNat = 1 from rfl, Nat.reduceMul, Nat.reduceEqDiff, Go.Addr.add, ↓reduceIte] at hx152_0); have qi152 : (1 < t149.length) = True := eq_true (by omega); (try rw [show ((1 : Int)).toNat = 1 from rfl] at hx152_0); replace p152 := eq_true p152; replace q152 := eq_true q152) | ((with_reducible refine gate_callee (f := 27) rfl ?_); refine goesL_ (some 20) rfl rfl Tryz.func27 (by kernel_rfl) rfl #[.string (rdOf ByteArray.empty t149 1)] rfl gZ ?_; (with_reducible refine (spec_ReadList.calls k (rdOf ByteArray.empty t149 1) t153 t154 _ A5.out).mono ?_); rintro e w12 ⟨v155, rfl, ho0, hb⟩; refine ⟨_, rfl, ?_⟩; have n0_ := Aside0.mk (Kd.R_below (Kd.rZ HO151.out) hb); have n1_ := Aside0.mk (Kd.R_lower ho0 bsZ); have n2_ := Aside0.mk (blk_below (g := gb148) (o := .cells #[.string (⟨#[]⟩ : ByteArray), .int .i64 0, .int .i64 0, .int .i64 0, .int .i64 0, .slice none 0 0] 41 (0, 0)) (kZ BK148.out) hb); have n3_ := Aside0.mk (below_step bZ hb); clear HO151; clear BK148; clear HB; have HO151 := n0_; have HO156 := n1_; have BK148 := n2_; have HB := n3_; clear n0_ n1_ n2_ n3_; (try clear hb); (try clear hb2); (try clear hk); (try clear hi); (try clear ho0); have p157 : 0 ≤ (2 : Int) := (by omega); have q157 : 2 < (t149.length : Int) := oZ; obtain ⟨ad157, e157, hx157_0⟩ := Kd.at_string (Kd.R_reads' HO151.out).2.2 2 p157 q157; obtain rfl : ad152 = ad157 := (by injection e157); (try simp only [show (2 : Int).toNat = 2 from rfl, Nat.reduceMul, Nat.reduceEqDiff, Go.Addr.add, ↓reduceIte] at hx157_0); have qi157 : (2 < t149.length) = True := eq_true (by omega); (try rw [show ((2 : Int)).toNat = 2 from rfl] at hx157_0); replace p157 := eq_true p157; replace q157 := eq_true q157) | ((with_reducible refine gate_callee (f := 27) rfl ?_); refine goesL_ (some 27) rfl rfl Tryz.func27 (by kernel_rfl) rfl #[.string (rdOf ByteArray.empty t149 2)] rfl gZ ?_; (with_reducible refine (spec_ReadList.calls k (rdOf ByteArray.empty t149 2) t158 t159 _ A7.out).mono ?_); rintro e w13 ⟨v160, rfl, ho0, hb⟩; refine ⟨_, rfl, ?_⟩; have n0_ := Aside0.mk (Kd.R_below (Kd.rZ HO151.out) hb); have n1_ := Aside0.mk (Kd.R_elder' (Kd.rZ HO156.out) (Kd.R_base ho0) hb); have n2_ := Aside0.mk (Kd.R_lower (Kd.R_new' ho0 (Kd.R_lt (Kd.rZ HO156.out))) bsZ); have n3_ := Aside0.mk (blk_below (g := gb148) (o := .cells #[.string (⟨#[]⟩ : ByteArray), .int .i64 0, .int .i64 0, .int .i64 0, .int .i64 0, .slice none 0 0] 41 (0, 0)) (kZ BK148.out) hb); have n4_ := Aside0.mk (below_step bZ hb); clear HO151; clear HO156; clear BK148; clear HB; have HO151 := n0_; have HO156 := n1_; have HO161 := n2_; have BK148 := n3_; have HB := n4_; clear n0_ n1_ n2_ n3_ n4_; (try clear hb); (try clear hb2); (try clear hk); (try clear hi); (try clear ho0)))
    (try simp only [Act.put, List.setIfInBounds_toArray, List.set_cons_zero, List.set_cons_succ])
    go_cut [40] (fun v40 wc => ∃ (kq : Nat) (x40_7 : Bool), v40 = .bool x40_7 ∧ Aside0 (spec_ReadBuilding.j0 kq t149 t153 t158 x40_7 = some (r1, r2, r3, r4, r5, r6, r7)) ∧ Aside0 (kq ≤ k) ∧ Aside0 (Kd.R Kd.string 9 wc w.heap.size (fun _ => True) (.slice (some ad152) t149.length co11) t149) ∧ Aside0 (Kd.R (Kd.int .i64) 2 wc w.heap.size (fun k_ => some k_ ≠ (v160 : Value).ownBlock) v155 t153) ∧ Aside0 (Kd.R (Kd.int .i64) 2 wc w.heap.size (fun k_ => some k_ ≠ (v155 : Value).ownBlock) v160 t158) ∧ Aside0 (wc.heap[gb148]? = some (.cells #[.string (⟨#[]⟩ : ByteArray), .int .i64 0, .int .i64 0, .int .i64 0, .int .i64 0, (.slice none 0 0)] 41 (0, 0))) ∧ Aside0 (Below w.heap.size w wc))
    case first =>
     have H := HC8.out
     clear HC8
     by_cases c14 : t154 = true
     ·subst c14
      have H1 : (if t159 = true then (spec_ReadBuilding.j0 k t149 t153 t158 ((t153.length : Int) != 4)) else (spec_ReadBuilding.j0 k t149 t153 t158 true)) = some (r1, r2, r3, r4, r5, r6, r7) := by rw [if_pos rfl] at H; exact H
      clear H
      have H := H1
      clear H1
      by_cases c15 : t159 = true
      ·subst c15
       have H1 : (spec_ReadBuilding.j0 k t149 t153 t158 ((t153.length : Int) != 4)) = some (r1, r2, r3, r4, r5, r6, r7) := by rw [if_pos rfl] at H; exact H
       clear H
       have H := H1
       clear H1
       have H' := Aside0.mk H
       clear H
       obtain ⟨Ao16, co16, eo16⟩ := Kd.R_slice HO156.out
       subst eo16
       go_wp2
       go_meet
       case rel => exact ⟨_, (((t153.length : Int) != 4)), sZ, H', ⟨by first | omega | exact Nat.le_refl _⟩, ⟨Kd.rZ HO151.out⟩, ⟨Kd.rZ (Kd.R_mono HO156.out (fun _ hk => hk.2))⟩, ⟨Kd.rZ (Kd.R_mono HO161.out (fun _ hk => hk.2))⟩, ⟨kZ BK148.out⟩, ⟨bZ⟩⟩
      ·replace c15 := Bool.eq_false_iff.mpr c15
       subst c15
       have H1 : (spec_ReadBuilding.j0 k t149 t153 t158 true) = some (r1, r2, r3, r4, r5, r6, r7) := by rw [if_neg (show ¬ (false = true) by decide)] at H; exact H
       clear H
       have H := H1
       clear H1
       have H' := Aside0.mk H
       clear H
       go_wp2
       go_meet
       case rel => exact ⟨_, (true), sZ, H', ⟨by first | omega | exact Nat.le_refl _⟩, ⟨Kd.rZ HO151.out⟩, ⟨Kd.rZ (Kd.R_mono HO156.out (fun _ hk => hk.2))⟩, ⟨Kd.rZ (Kd.R_mono HO161.out (fun _ hk => hk.2))⟩, ⟨kZ BK148.out⟩, ⟨bZ⟩⟩
     ·replace c14 := Bool.eq_false_iff.mpr c14
      subst c14
      have H1 : (spec_ReadBuilding.j0 k t149 t153 t158 true) = some (r1, r2, r3, r4, r5, r6, r7) := by rw [if_neg (show ¬ (false = true) by decide)] at H; exact H
      clear H
      have H := H1
      clear H1
      have H' := Aside0.mk H
      clear H
      go_wp2
      go_meet
      case rel => exact ⟨_, (true), sZ, H', ⟨by first | omega | exact Nat.le_refl _⟩, ⟨Kd.rZ HO151.out⟩, ⟨Kd.rZ (Kd.R_mono HO156.out (fun _ hk => hk.2))⟩, ⟨Kd.rZ (Kd.R_mono HO161.out (fun _ hk => hk.2))⟩, ⟨kZ BK148.out⟩, ⟨bZ⟩⟩
    case rest =>
     clear HC8; (try clear c1); (try clear p1); (try clear q1); (try clear hx1); (try clear qi1); (try clear c2); (try clear p2); (try clear c3); (try clear c3b0); (try clear c3b1); (try clear c4); (try clear c4b0); (try clear c4b1); (try clear c6); (try clear c6b0); (try clear c6b1); (try clear c14); (try clear c15); (try clear p15); (try clear q15); (try clear hx15); (try clear qi15); (try clear hx152_0); (try clear hx157_0); (try clear p152); (try clear p157); (try clear q152); (try clear q157)
     obtain ⟨kq, x40_7, rfl, HA, HJ7, HO_4, HO_5, HO_7, BK148, HB⟩ := hcut
     cases kq with
     | zero => exact absurd HA.out (by simp [spec_ReadBuilding.j0])
     | succ kj7 =>
      have H := HA.out
      clear HA
      simp only [spec_ReadBuilding.j0] at H
      by_cases c17 : x40_7 = true
      ·subst c17
       have H1 : (some ((⟨#[]⟩ : ByteArray), 0, 0, 0, 0, ([] : List Int), false)) = some (r1, r2, r3, r4, r5, r6, r7) := by rw [if_pos rfl] at H; exact H
       clear H
       have H := H1
       clear H1
       simp only [Option.some.injEq, Prod.mk.injEq] at H
       obtain ⟨rfl, rfl, rfl, rfl, rfl, rfl, rfl⟩ := H
       have hcz18_0 := bc0 BK148.out
       have hcz18_1 := bc1 BK148.out
       have hcz18_2 := bc2 BK148.out
       have hcz18_3 := bc3 BK148.out
       have hcz18_4 := bc4 BK148.out
       have hcz18_5 := bc5 BK148.out
       have hfz18_0 := blk_frozen BK148.out 0
       have hfz18_1 := blk_frozen BK148.out 1
       have hfz18_2 := blk_frozen BK148.out 2
       have hfz18_3 := blk_frozen BK148.out 3
       have hfz18_4 := blk_frozen BK148.out 4
       have hfz18_5 := blk_frozen BK148.out 5
       go_wp2
       refine bodyPost_ret (results_ct rfl _ _ gb148 41 #[.string (⟨#[]⟩ : ByteArray), .int .i64 0, .int .i64 0, .int .i64 0, .int .i64 0, .slice none 0 0] (0, 0) _ rfl (by (with_reducible repeat (first | refine blk_drewN ?_ _ | refine blk_drew ?_ | refine blk_alloc ?_ _)); refine blk_put (cs := #[.string (⟨#[]⟩ : ByteArray), .int .i64 0, .int .i64 0, .int .i64 0, .int .i64 0, .slice none 0 0]) ?_ 5 _ rfl; (with_reducible repeat (first | refine blk_drewN ?_ _ | refine blk_drew ?_ | refine blk_alloc ?_ _)); refine blk_put (cs := #[.string (⟨#[]⟩ : ByteArray), .int .i64 0, .int .i64 0, .int .i64 0, .int .i64 0, .slice none 0 0]) ?_ 4 _ rfl; (with_reducible repeat (first | refine blk_drewN ?_ _ | refine blk_drew ?_ | refine blk_alloc ?_ _)); refine blk_put (cs := #[.string (⟨#[]⟩ : ByteArray), .int .i64 0, .int .i64 0, .int .i64 0, .int .i64 0, .slice none 0 0]) ?_ 3 _ rfl; (with_reducible repeat (first | refine blk_drewN ?_ _ | refine blk_drew ?_ | refine blk_alloc ?_ _)); refine blk_put (cs := #[.string (⟨#[]⟩ : ByteArray), .int .i64 0, .int .i64 0, .int .i64 0, .int .i64 0, .slice none 0 0]) ?_ 2 _ rfl; (with_reducible repeat (first | refine blk_drewN ?_ _ | refine blk_drew ?_ | refine blk_alloc ?_ _)); refine blk_put (cs := #[.string (⟨#[]⟩ : ByteArray), .int .i64 0, .int .i64 0, .int .i64 0, .int .i64 0, .slice none 0 0]) ?_ 1 _ rfl; (with_reducible repeat (first | refine blk_drewN ?_ _ | refine blk_drew ?_ | refine blk_alloc ?_ _)); refine blk_put (cs := #[.string (⟨#[]⟩ : ByteArray), .int .i64 0, .int .i64 0, .int .i64 0, .int .i64 0, .slice none 0 0]) ?_ 0 _ rfl; (with_reducible repeat (first | refine blk_drewN ?_ _ | refine blk_drew ?_ | refine blk_alloc ?_ _)); exact BK148.out) Tryz.underlying41 rfl (by kernel_rfl)) rfl ?_
       exact ⟨_, eZ, by first | exact Kd.R_nil _ _ _ _ _ | exact Kd.N_nil _ _ _ _ _ | exact Kd.V_nil _ _ _ _ _ | exact Kd.Q_nil _ _ _ _ _ | exact Kd.S_nil _ _ _ _ _, bZ⟩
      ·replace c17 := Bool.eq_false_iff.mpr c17
       subst c17
       have H1 : (if 0 < (t149.length : Int) then (if 0 < (t153.length : Int) then (if 1 < (t153.length : Int) then (if 2 < (t153.length : Int) then (if 3 < (t153.length : Int) then ((spec_l05One.f kj7 (rdOf ByteArray.empty t149 0) (rd t153 0) (rd t153 1) (rd t153 2) (rd t153 3) t158).bind fun t168 => (if t168 = true then (some (rdOf ByteArray.empty t149 0, rd t153 0, rd t153 1, rd t153 2, rd t153 3, t158, true)) else (some ((⟨#[]⟩ : ByteArray), 0, 0, 0, 0, ([] : List Int), false)))) else (none)) else (none)) else (none)) else (none)) else (none)) = some (r1, r2, r3, r4, r5, r6, r7) := by rw [if_neg (show ¬ (false = true) by decide)] at H; exact H
       clear H
       have H := H1
       clear H1
       by_cases c19 : 0 < (t149.length : Int)
       ·rw [if_pos c19] at H
        have c19b0 : decide (0 < (t149.length : Int)) = true := decide_eq_true c19
        have c19b1 : decide (0 < t149.length) = true := decide_eq_true (by omega)
        clear c19
        by_cases c20 : 0 < (t153.length : Int)
        ·rw [if_pos c20] at H
         have c20b0 : decide (0 < (t153.length : Int)) = true := decide_eq_true c20
         have c20b1 : decide (0 < t153.length) = true := decide_eq_true (by omega)
         clear c20
         by_cases c21 : 1 < (t153.length : Int)
         ·rw [if_pos c21] at H
          have c21b0 : decide (1 < (t153.length : Int)) = true := decide_eq_true c21
          have c21b1 : decide (1 < t153.length) = true := decide_eq_true (by omega)
          clear c21
          by_cases c22 : 2 < (t153.length : Int)
          ·rw [if_pos c22] at H
           have c22b0 : decide (2 < (t153.length : Int)) = true := decide_eq_true c22
           have c22b1 : decide (2 < t153.length) = true := decide_eq_true (by omega)
           clear c22
           by_cases c23 : 3 < (t153.length : Int)
           ·rw [if_pos c23] at H
            have c23b0 : decide (3 < (t153.length : Int)) = true := decide_eq_true c23
            have c23b1 : decide (3 < t153.length) = true := decide_eq_true (by omega)
            clear c23
            replace H := Option.bind_eq_some_iff.mp H
            obtain ⟨t168, A240, H⟩ := H
            replace H : (if t168 = true then (some (rdOf ByteArray.empty t149 0, rd t153 0, rd t153 1, rd t153 2, rd t153 3, t158, true)) else (some ((⟨#[]⟩ : ByteArray), 0, 0, 0, 0, ([] : List Int), false))) = some (r1, r2, r3, r4, r5, r6, r7) := H
            have A24 := Aside0.mk A240
            clear A240
            by_cases c25 : t168 = true
            ·subst c25
             have H1 : (some (rdOf ByteArray.empty t149 0, rd t153 0, rd t153 1, rd t153 2, rd t153 3, t158, true)) = some (r1, r2, r3, r4, r5, r6, r7) := by rw [if_pos rfl] at H; exact H
             clear H
             have H := H1
             clear H1
             simp only [Option.some.injEq, Prod.mk.injEq] at H
             obtain ⟨rfl, rfl, rfl, rfl, rfl, rfl, rfl⟩ := H
             try go_wp2
             have n0_ := Aside0.mk (Kd.R_drew HO_4.out)
             have n1_ := Aside0.mk (Kd.R_drew HO_5.out)
             have n2_ := Aside0.mk (Kd.R_drew HO_7.out)
             have n3_ := Aside0.mk (blk_drew BK148.out)
             have n4_ := Aside0.mk (below_drew1 HB.out)
             clear HO_4; clear HO_5; clear HO_7; clear BK148; clear HB
             have HO_4 := n0_
             have HO_5 := n1_
             have HO_7 := n2_
             have BK148 := n3_
             have HB := n4_
             clear n0_ n1_ n2_ n3_ n4_
             have p162 : 0 ≤ (0 : Int) := (by omega)
             have q162 : 0 < (t149.length : Int) := oZ
             obtain ⟨ad162, e162, hx162_0⟩ := Kd.at_string (Kd.R_reads' HO_4.out).2.2 0 p162 q162
             obtain rfl : ad152 = ad162 := (by injection e162)
             have qi162 : (0 < t149.length) = True := eq_true (by omega)
             (try rw [show ((0 : Int)).toNat = 0 from rfl] at hx162_0)
             (try rw [Addr.add_zero'] at hx162_0)
             replace p162 := eq_true p162
             replace q162 := eq_true q162
             obtain ⟨Ao27, co27, eo27⟩ := Kd.R_slice HO_5.out
             (first | subst eo27 | (injection eo27 with f1_ f2_ f3_; have f4_ := f1_.symm; have f5_ := f3_.symm; clear f1_ f2_ f3_; subst f4_; subst f5_))
             have p163 : 0 ≤ (0 : Int) := (by omega)
             have q163 : 0 < (t153.length : Int) := oZ
             obtain ⟨ad163, e163, hx163_0⟩ := Kd.at_int (Kd.R_reads' HO_5.out).2.2 0 p163 q163
             cases e163
             have qi163 : (0 < t153.length) = True := eq_true (by omega)
             (try rw [show ((0 : Int)).toNat = 0 from rfl] at hx163_0)
             (try rw [Addr.add_zero'] at hx163_0)
             replace p163 := eq_true p163
             replace q163 := eq_true q163
             have p164 : 0 ≤ (1 : Int) := (by omega)
             have q164 : 1 < (t153.length : Int) := oZ
             obtain ⟨ad164, e164, hx164_0⟩ := Kd.at_int (Kd.R_reads' HO_5.out).2.2 1 p164 q164
             obtain rfl : ad163 = ad164 := (by injection e164)
             (try simp only [show (1 : Int).toNat = 1 from rfl, Nat.reduceMul, Nat.reduceEqDiff, Go.Addr.add, ↓reduceIte] at hx164_0)
             have qi164 : (1 < t153.length) = True := eq_true (by omega)
             (try rw [show ((1 : Int)).toNat = 1 from rfl] at hx164_0)
             replace p164 := eq_true p164
             replace q164 := eq_true q164
             have p165 : 0 ≤ (2 : Int) := (by omega)
             have q165 : 2 < (t153.length : Int) := oZ
             obtain ⟨ad165, e165, hx165_0⟩ := Kd.at_int (Kd.R_reads' HO_5.out).2.2 2 p165 q165
             obtain rfl : ad163 = ad165 := (by injection e165)
             (try simp only [show (2 : Int).toNat = 2 from rfl, Nat.reduceMul, Nat.reduceEqDiff, Go.Addr.add, ↓reduceIte] at hx165_0)
             have qi165 : (2 < t153.length) = True := eq_true (by omega)
             (try rw [show ((2 : Int)).toNat = 2 from rfl] at hx165_0)
             replace p165 := eq_true p165
             replace q165 := eq_true q165
             have p166 : 0 ≤ (3 : Int) := (by omega)
             have q166 : 3 < (t153.length : Int) := oZ
             obtain ⟨ad166, e166, hx166_0⟩ := Kd.at_int (Kd.R_reads' HO_5.out).2.2 3 p166 q166
             obtain rfl : ad163 = ad166 := (by injection e166)
             (try simp only [show (3 : Int).toNat = 3 from rfl, Nat.reduceMul, Nat.reduceEqDiff, Go.Addr.add, ↓reduceIte] at hx166_0)
             have qi166 : (3 < t153.length) = True := eq_true (by omega)
             (try rw [show ((3 : Int)).toNat = 3 from rfl] at hx166_0)
             replace p166 := eq_true p166
             replace q166 := eq_true q166
             obtain ⟨Ao28, co28, eo28⟩ := Kd.R_slice HO_7.out
             (first | subst eo28 | (injection eo28 with f1_ f2_ f3_; have f4_ := f1_.symm; have f5_ := f3_.symm; clear f1_ f2_ f3_; subst f4_; subst f5_))
             refine start_ (n := 19) (S := fun w' => w'.cell? ad152 = some (.string (rdOf ByteArray.empty t149 0)) ∧ w'.cell? ad163 = some (.int .i64 (rd t153 0)) ∧ w'.cell? ⟨ad163.block, ad163.off + 1, none⟩ = some (.int .i64 (rd t153 1)) ∧ w'.cell? ⟨ad163.block, ad163.off + 2, none⟩ = some (.int .i64 (rd t153 2)) ∧ w'.cell? ⟨ad163.block, ad163.off + 3, none⟩ = some (.int .i64 (rd t153 3))) (ds := []) #[false, false, false, false, false, false, false, false, false, false, false, false, false, false, false, false, false, false, false] (by kernel_rfl) rfl rfl ⟨hx162_0, hx163_0, hx164_0, hx165_0, hx166_0⟩ (fun hHeld => ?_); refine with_tabW spec_ReadBuilding.tab8 spec_ReadBuilding.bits8 (fun HT_ HW_ => ?_)
             generalize wc.drew = w26 at HO_4 HO_5 HO_7 BK148 HB hx162_0 hx163_0 hx164_0 hx165_0 hx166_0 hHeld ⊢
             refine puZ 0 (some 42) #[true, false, false, false, false, false, false, false, false, false, false, false, false, false, false, false, false, false, false] rfl rfl HT_.out ?_
             refine puZ 1 (some 43) #[true, true, false, false, false, false, false, false, false, false, false, false, false, false, false, false, false, false, false] rfl rfl HT_.out ?_
             refine puZ 3 (some 45) #[true, true, false, true, false, false, false, false, false, false, false, false, false, false, false, false, false, false, false] rfl rfl HT_.out ?_
             refine puZ 4 (some 46) #[true, true, false, true, true, false, false, false, false, false, false, false, false, false, false, false, false, false, false] rfl rfl HT_.out ?_
             refine puZ 6 (some 48) #[true, true, false, true, true, false, true, false, false, false, false, false, false, false, false, false, false, false, false] rfl rfl HT_.out ?_
             refine puZ 7 (some 49) #[true, true, false, true, true, false, true, true, false, false, false, false, false, false, false, false, false, false, false] rfl rfl HT_.out ?_
             refine puZ 9 (some 51) #[true, true, false, true, true, false, true, true, false, true, false, false, false, false, false, false, false, false, false] rfl rfl HT_.out ?_
             refine puZ 10 (some 52) #[true, true, false, true, true, false, true, true, false, true, true, false, false, false, false, false, false, false, false] rfl rfl HT_.out ?_
             refine puZ 12 (some 54) #[true, true, false, true, true, false, true, true, false, true, true, false, true, false, false, false, false, false, false] rfl rfl HT_.out ?_
             refine puZ 13 (some 55) #[true, true, false, true, true, false, true, true, false, true, true, false, true, true, false, false, false, false, false] rfl rfl HT_.out ?_
             refine puZ 15 (some 57) #[true, true, false, true, true, false, true, true, false, true, true, false, true, true, false, true, false, false, false] rfl rfl HT_.out ?_
             refine take_ (i := 2) (N := some 44) (v := ?_) (a' := ?_) #[true, true, true, true, true, false, true, true, false, true, true, false, true, true, false, true, false, false, false] rfl rfl (take_ofW HT_.out HW_.out (by kernel_rfl)) (fun _ _ _ h => h) (Or.inl ⟨by rfl, ?_⟩) hHeld ?_ ?_
             rotate_left
             ·rintro w' ⟨s0, s1, s2, s3, s4⟩
              go_simp
              with_reducible rfl
             rotate_left
             ·simp only [Act.put, List.setIfInBounds_toArray, List.set_cons_zero, List.set_cons_succ, i64_w, i32_w]
              rfl
             refine take_ (i := 5) (N := some 47) (v := ?_) (a' := ?_) #[true, true, true, true, true, true, true, true, false, true, true, false, true, true, false, true, false, false, false] rfl rfl (take_ofW HT_.out HW_.out (by kernel_rfl)) (fun _ _ _ h => h) (Or.inl ⟨by rfl, ?_⟩) hHeld ?_ ?_
             rotate_left
             ·rintro w' ⟨s0, s1, s2, s3, s4⟩
              go_simp
              with_reducible rfl
             rotate_left
             ·simp only [Act.put, List.setIfInBounds_toArray, List.set_cons_zero, List.set_cons_succ, i64_w, i32_w]
              rfl
             refine take_ (i := 8) (N := some 50) (v := ?_) (a' := ?_) #[true, true, true, true, true, true, true, true, true, true, true, false, true, true, false, true, false, false, false] rfl rfl (take_ofW HT_.out HW_.out (by kernel_rfl)) (fun _ _ _ h => h) (Or.inl ⟨by rfl, ?_⟩) hHeld ?_ ?_
             rotate_left
             ·rintro w' ⟨s0, s1, s2, s3, s4⟩
              go_simp
              with_reducible rfl
             rotate_left
             ·simp only [Act.put, List.setIfInBounds_toArray, List.set_cons_zero, List.set_cons_succ, i64_w, i32_w]
              rfl
             refine take_ (i := 11) (N := some 53) (v := ?_) (a' := ?_) #[true, true, true, true, true, true, true, true, true, true, true, true, true, true, false, true, false, false, false] rfl rfl (take_ofW HT_.out HW_.out (by kernel_rfl)) (fun _ _ _ h => h) (Or.inl ⟨by rfl, ?_⟩) hHeld ?_ ?_
             rotate_left
             ·rintro w' ⟨s0, s1, s2, s3, s4⟩
              go_simp
              with_reducible rfl
             rotate_left
             ·simp only [Act.put, List.setIfInBounds_toArray, List.set_cons_zero, List.set_cons_succ, i64_w, i32_w]
              rfl
             refine take_ (i := 14) (N := some 56) (v := ?_) (a' := ?_) #[true, true, true, true, true, true, true, true, true, true, true, true, true, true, true, true, false, false, false] rfl rfl (take_ofW HT_.out HW_.out (by kernel_rfl)) (fun _ _ _ h => h) (Or.inl ⟨by rfl, ?_⟩) hHeld ?_ ?_
             rotate_left
             ·rintro w' ⟨s0, s1, s2, s3, s4⟩
              go_simp
              with_reducible rfl
             rotate_left
             ·simp only [Act.put, List.setIfInBounds_toArray, List.set_cons_zero, List.set_cons_succ, i64_w, i32_w]
              rfl
             refine puZ 16 (some 58) #[true, true, true, true, true, true, true, true, true, true, true, true, true, true, true, true, true, false, false] rfl rfl HT_.out ?_
             refine one_ (i := 17) (N := some 9) #[true, true, true, true, true, true, true, true, true, true, true, true, true, true, true, true, true, true, false] rfl rfl (one_of HT_.out (by kernel_rfl)) (by decide) (fun K hK => ?_)
             refine box_step ?hg (N := 9) ?hd (cs := #[.string (⟨#[]⟩ : ByteArray), .int .i64 0, .int .i64 0, .int .i64 0, .int .i64 0, .slice none 0 0]) (t := 41) ?hr ?_; (case hd => rfl); (case hg => rfl); (case hr => first | (go_simp; done) | (go_simp; rfl))
             intro gb167 hg w29 hbox hb
             have HS0_ := (hb.cell (World.block_lt_of_cell? _ _ (hHeld.1))).trans (hHeld.1)
             have HS1_ := (hb.cell (World.block_lt_of_cell? _ _ (hHeld.2.1))).trans (hHeld.2.1)
             have HS2_ := (hb.cell (World.block_lt_of_cell? _ _ (hHeld.2.2.1))).trans (hHeld.2.2.1)
             have HS3_ := (hb.cell (World.block_lt_of_cell? _ _ (hHeld.2.2.2.1))).trans (hHeld.2.2.2.1)
             have HS4_ := (hb.cell (World.block_lt_of_cell? _ _ (hHeld.2.2.2.2))).trans (hHeld.2.2.2.2)
             have n0_ := Aside0.mk (Kd.R_below (Kd.rZ HO_4.out) hb)
             have n1_ := Aside0.mk (Kd.R_below (Kd.rZ HO_5.out) hb)
             have n2_ := Aside0.mk (Kd.R_below (Kd.rZ HO_7.out) hb)
             have n3_ := Aside0.mk (blk_below (g := gb148) (o := .cells #[.string (⟨#[]⟩ : ByteArray), .int .i64 0, .int .i64 0, .int .i64 0, .int .i64 0, .slice none 0 0] 41 (0, 0)) (kZ BK148.out) hb)
             have n4_ := Aside0.mk (below_step bZ hb)
             have n5_ := Aside0.mk (hbox)
             have n6_ := Aside0.mk ((by rw [hg]; exact bsZ : w.heap.size ≤ gb167))
             have n7_ := Aside0.mk ((by rw [hg]; exact bsZ : w.heap.size ≤ gb167))
             have n8_ := Aside0.mk ((by rw [hg]; exact Nat.ne_of_lt (blk_lt (g := gb148) (o := .cells #[.string (⟨#[]⟩ : ByteArray), .int .i64 0, .int .i64 0, .int .i64 0, .int .i64 0, .slice none 0 0] 41 (0, 0)) (kZ BK148.out)) : gb148 ≠ gb167))
             have n9_ := Aside0.mk ((by rw [hg]; exact Nat.ne_of_gt (blk_lt (g := gb148) (o := .cells #[.string (⟨#[]⟩ : ByteArray), .int .i64 0, .int .i64 0, .int .i64 0, .int .i64 0, .slice none 0 0] 41 (0, 0)) (kZ BK148.out)) : gb167 ≠ gb148))
             clear HO_4; clear HO_5; clear HO_7; clear BK148; clear HB
             have HO_4 := n0_
             have HO_5 := n1_
             have HO_7 := n2_
             have BK148 := n3_
             have HB := n4_
             have BK167 := n5_
             have GW167 := n6_
             have GE167 := n7_
             have NB148_167 := n8_
             have NB167_148 := n9_
             clear n0_ n1_ n2_ n3_ n4_ n5_ n6_ n7_ n8_ n9_
             clear hb hbox hg
             refine hK.out _ _ ⟨HS0_, HS1_, HS2_, HS3_, HS4_⟩ (fun hHeld => ?_)
             clear hK K
             refine norm_ (a' := ?_) ?_ ?_
             rotate_left
             ·show Act.put _ (some 9) _ = _
              simp only [Act.put, List.setIfInBounds_toArray, List.set_cons_zero, List.set_cons_succ, i64_w, i32_w]
              rfl
             refine one_ (i := 18) (N := none) #[true, true, true, true, true, true, true, true, true, true, true, true, true, true, true, true, true, true, true] rfl rfl (one_of HT_.out (by kernel_rfl)) (by decide) (fun K hK => ?_)
             have hs30 := bc0 BK167.out
             have hfs30 := blk_frozen BK167.out 0
             have hns30_0 := NB148_167.out
             have hms30_0 := NB167_148.out
             have hs31 := bc1 BK167.out
             have hfs31 := blk_frozen BK167.out 1
             have hns31_0 := NB148_167.out
             have hms31_0 := NB167_148.out
             have hs32 := bc2 BK167.out
             have hfs32 := blk_frozen BK167.out 2
             have hns32_0 := NB148_167.out
             have hms32_0 := NB167_148.out
             have hs33 := bc3 BK167.out
             have hfs33 := blk_frozen BK167.out 3
             have hns33_0 := NB148_167.out
             have hms33_0 := NB167_148.out
             have hs34 := bc4 BK167.out
             have hfs34 := blk_frozen BK167.out 4
             have hns34_0 := NB148_167.out
             have hms34_0 := NB167_148.out
             have hs35 := bc5 BK167.out
             have hfs35 := blk_frozen BK167.out 5
             have hns35_0 := NB148_167.out
             have hms35_0 := NB167_148.out
             refine skip_ (w1 := ?_) (by rfl) rfl ?_ ?_
             rotate_left
             ·go_simp
              rfl
             refine hK.out _ _ ⟨(far6 (by first | (dsimp only; exact Kd.own_blk (Kd.R_ne HO_4.out BK167.out (by decide))) | exact Kd.own_blk (Kd.R_ne HO_4.out BK167.out (by decide)) | (rw [add_block]; exact Kd.own_blk (Kd.R_ne HO_4.out BK167.out (by decide)))) (hHeld.1)), (far6 (by first | (dsimp only; exact Kd.own_blk (Kd.R_ne HO_5.out BK167.out (by decide))) | exact Kd.own_blk (Kd.R_ne HO_5.out BK167.out (by decide)) | (rw [add_block]; exact Kd.own_blk (Kd.R_ne HO_5.out BK167.out (by decide)))) (hHeld.2.1)), (far6 (by first | (dsimp only; exact Kd.own_blk (Kd.R_ne HO_5.out BK167.out (by decide))) | exact Kd.own_blk (Kd.R_ne HO_5.out BK167.out (by decide)) | (rw [add_block]; exact Kd.own_blk (Kd.R_ne HO_5.out BK167.out (by decide)))) (hHeld.2.2.1)), (far6 (by first | (dsimp only; exact Kd.own_blk (Kd.R_ne HO_5.out BK167.out (by decide))) | exact Kd.own_blk (Kd.R_ne HO_5.out BK167.out (by decide)) | (rw [add_block]; exact Kd.own_blk (Kd.R_ne HO_5.out BK167.out (by decide)))) (hHeld.2.2.2.1)), (far6 (by first | (dsimp only; exact Kd.own_blk (Kd.R_ne HO_5.out BK167.out (by decide))) | exact Kd.own_blk (Kd.R_ne HO_5.out BK167.out (by decide)) | (rw [add_block]; exact Kd.own_blk (Kd.R_ne HO_5.out BK167.out (by decide)))) (hHeld.2.2.2.2))⟩ (fun hHeld => ?_)
             clear hK K
             refine done_ (done_of HT_.out (by kernel_rfl)) ?_
             have n0_ : Aside0 (Kd.R Kd.string 9 ((((((w29.setCell ⟨gb167, 0, none⟩ (.string (rdOf ByteArray.empty t149 0))).setCell ⟨gb167, 1, none⟩ (.int .i64 (rd t153 0))).setCell ⟨gb167, 2, none⟩ (.int .i64 (rd t153 1))).setCell ⟨gb167, 3, none⟩ (.int .i64 (rd t153 2))).setCell ⟨gb167, 4, none⟩ (.int .i64 (rd t153 3))).setCell ⟨gb167, 5, none⟩ (.slice Ao28 t158.length co28)) w.heap.size (fun _ => True) (.slice (some ad152) t149.length co11) t149) := ⟨Kd.rZ (Kd.R_mono (Kd.R_far (p := ⟨gb167, 5, none⟩) (Kd.R_far (p := ⟨gb167, 4, none⟩) (Kd.R_far (p := ⟨gb167, 3, none⟩) (Kd.R_far (p := ⟨gb167, 2, none⟩) (Kd.R_far (p := ⟨gb167, 1, none⟩) (Kd.R_far (p := ⟨gb167, 0, none⟩) (Kd.R_types HO_4.out BK167.out (by decide)) (fun _ hk => hk.2) (.string (rdOf ByteArray.empty t149 0))) (fun _ hk => hk.2) (.int .i64 (rd t153 0))) (fun _ hk => hk.2) (.int .i64 (rd t153 1))) (fun _ hk => hk.2) (.int .i64 (rd t153 2))) (fun _ hk => hk.2) (.int .i64 (rd t153 3))) (fun _ hk => hk.2) (.slice Ao28 t158.length co28)) (fun _ hk => trivial))⟩
             have n1_ : Aside0 (Kd.R (Kd.int .i64) 2 ((((((w29.setCell ⟨gb167, 0, none⟩ (.string (rdOf ByteArray.empty t149 0))).setCell ⟨gb167, 1, none⟩ (.int .i64 (rd t153 0))).setCell ⟨gb167, 2, none⟩ (.int .i64 (rd t153 1))).setCell ⟨gb167, 3, none⟩ (.int .i64 (rd t153 2))).setCell ⟨gb167, 4, none⟩ (.int .i64 (rd t153 3))).setCell ⟨gb167, 5, none⟩ (.slice Ao28 t158.length co28)) w.heap.size (fun k_ => some k_ ≠ (.slice Ao28 t158.length co28 : Value).ownBlock) (.slice (some ad163) t153.length co27) t153) := ⟨Kd.rZ (Kd.R_mono (Kd.R_far (p := ⟨gb167, 5, none⟩) (Kd.R_far (p := ⟨gb167, 4, none⟩) (Kd.R_far (p := ⟨gb167, 3, none⟩) (Kd.R_far (p := ⟨gb167, 2, none⟩) (Kd.R_far (p := ⟨gb167, 1, none⟩) (Kd.R_far (p := ⟨gb167, 0, none⟩) (Kd.R_types HO_5.out BK167.out (by decide)) (fun _ hk => hk.2) (.string (rdOf ByteArray.empty t149 0))) (fun _ hk => hk.2) (.int .i64 (rd t153 0))) (fun _ hk => hk.2) (.int .i64 (rd t153 1))) (fun _ hk => hk.2) (.int .i64 (rd t153 2))) (fun _ hk => hk.2) (.int .i64 (rd t153 3))) (fun _ hk => hk.2) (.slice Ao28 t158.length co28)) (fun _ hk => hk.1))⟩
             have n2_ : Aside0 (Kd.R (Kd.int .i64) 2 ((((((w29.setCell ⟨gb167, 0, none⟩ (.string (rdOf ByteArray.empty t149 0))).setCell ⟨gb167, 1, none⟩ (.int .i64 (rd t153 0))).setCell ⟨gb167, 2, none⟩ (.int .i64 (rd t153 1))).setCell ⟨gb167, 3, none⟩ (.int .i64 (rd t153 2))).setCell ⟨gb167, 4, none⟩ (.int .i64 (rd t153 3))).setCell ⟨gb167, 5, none⟩ (.slice Ao28 t158.length co28)) w.heap.size (fun k_ => some k_ ≠ (.slice (some ad163) t153.length co27 : Value).ownBlock) (.slice Ao28 t158.length co28) t158) := ⟨Kd.rZ (Kd.R_mono (Kd.R_far (p := ⟨gb167, 5, none⟩) (Kd.R_far (p := ⟨gb167, 4, none⟩) (Kd.R_far (p := ⟨gb167, 3, none⟩) (Kd.R_far (p := ⟨gb167, 2, none⟩) (Kd.R_far (p := ⟨gb167, 1, none⟩) (Kd.R_far (p := ⟨gb167, 0, none⟩) (Kd.R_types HO_7.out BK167.out (by decide)) (fun _ hk => hk.2) (.string (rdOf ByteArray.empty t149 0))) (fun _ hk => hk.2) (.int .i64 (rd t153 0))) (fun _ hk => hk.2) (.int .i64 (rd t153 1))) (fun _ hk => hk.2) (.int .i64 (rd t153 2))) (fun _ hk => hk.2) (.int .i64 (rd t153 3))) (fun _ hk => hk.2) (.slice Ao28 t158.length co28)) (fun _ hk => hk.1))⟩
             have n3_ : Aside0 (((((((w29.setCell ⟨gb167, 0, none⟩ (.string (rdOf ByteArray.empty t149 0))).setCell ⟨gb167, 1, none⟩ (.int .i64 (rd t153 0))).setCell ⟨gb167, 2, none⟩ (.int .i64 (rd t153 1))).setCell ⟨gb167, 3, none⟩ (.int .i64 (rd t153 2))).setCell ⟨gb167, 4, none⟩ (.int .i64 (rd t153 3))).setCell ⟨gb167, 5, none⟩ (.slice Ao28 t158.length co28)).heap[gb148]? = some (.cells #[.string (⟨#[]⟩ : ByteArray), .int .i64 0, .int .i64 0, .int .i64 0, .int .i64 0, .slice none 0 0] 41 (0, 0))) := ⟨by (with_reducible repeat (first | refine blk_drewN ?_ _ | refine blk_drew ?_ | refine blk_alloc ?_ _)); refine blk_far ?_ NB148_167.out _; (with_reducible repeat (first | refine blk_drewN ?_ _ | refine blk_drew ?_ | refine blk_alloc ?_ _)); refine blk_far ?_ NB148_167.out _; (with_reducible repeat (first | refine blk_drewN ?_ _ | refine blk_drew ?_ | refine blk_alloc ?_ _)); refine blk_far ?_ NB148_167.out _; (with_reducible repeat (first | refine blk_drewN ?_ _ | refine blk_drew ?_ | refine blk_alloc ?_ _)); refine blk_far ?_ NB148_167.out _; (with_reducible repeat (first | refine blk_drewN ?_ _ | refine blk_drew ?_ | refine blk_alloc ?_ _)); refine blk_far ?_ NB148_167.out _; (with_reducible repeat (first | refine blk_drewN ?_ _ | refine blk_drew ?_ | refine blk_alloc ?_ _)); refine blk_far ?_ NB148_167.out _; (with_reducible repeat (first | refine blk_drewN ?_ _ | refine blk_drew ?_ | refine blk_alloc ?_ _)); exact BK148.out⟩
             have n4_ : Aside0 (((((((w29.setCell ⟨gb167, 0, none⟩ (.string (rdOf ByteArray.empty t149 0))).setCell ⟨gb167, 1, none⟩ (.int .i64 (rd t153 0))).setCell ⟨gb167, 2, none⟩ (.int .i64 (rd t153 1))).setCell ⟨gb167, 3, none⟩ (.int .i64 (rd t153 2))).setCell ⟨gb167, 4, none⟩ (.int .i64 (rd t153 3))).setCell ⟨gb167, 5, none⟩ (.slice Ao28 t158.length co28)).heap[gb167]? = some (.cells #[.string (rdOf ByteArray.empty t149 0), .int .i64 (rd t153 0), .int .i64 (rd t153 1), .int .i64 (rd t153 2), .int .i64 (rd t153 3), .slice Ao28 t158.length co28] 41 (0, 0))) := ⟨by (with_reducible repeat (first | refine blk_drewN ?_ _ | refine blk_drew ?_ | refine blk_alloc ?_ _)); refine blk_put (cs := #[.string (rdOf ByteArray.empty t149 0), .int .i64 (rd t153 0), .int .i64 (rd t153 1), .int .i64 (rd t153 2), .int .i64 (rd t153 3), .slice none 0 0]) ?_ 5 _ rfl; (with_reducible repeat (first | refine blk_drewN ?_ _ | refine blk_drew ?_ | refine blk_alloc ?_ _)); refine blk_put (cs := #[.string (rdOf ByteArray.empty t149 0), .int .i64 (rd t153 0), .int .i64 (rd t153 1), .int .i64 (rd t153 2), .int .i64 0, .slice none 0 0]) ?_ 4 _ rfl; (with_reducible repeat (first | refine blk_drewN ?_ _ | refine blk_drew ?_ | refine blk_alloc ?_ _)); refine blk_put (cs := #[.string (rdOf ByteArray.empty t149 0), .int .i64 (rd t153 0), .int .i64 (rd t153 1), .int .i64 0, .int .i64 0, .slice none 0 0]) ?_ 3 _ rfl; (with_reducible repeat (first | refine blk_drewN ?_ _ | refine blk_drew ?_ | refine blk_alloc ?_ _)); refine blk_put (cs := #[.string (rdOf ByteArray.empty t149 0), .int .i64 (rd t153 0), .int .i64 0, .int .i64 0, .int .i64 0, .slice none 0 0]) ?_ 2 _ rfl; (with_reducible repeat (first | refine blk_drewN ?_ _ | refine blk_drew ?_ | refine blk_alloc ?_ _)); refine blk_put (cs := #[.string (rdOf ByteArray.empty t149 0), .int .i64 0, .int .i64 0, .int .i64 0, .int .i64 0, .slice none 0 0]) ?_ 1 _ rfl; (with_reducible repeat (first | refine blk_drewN ?_ _ | refine blk_drew ?_ | refine blk_alloc ?_ _)); refine blk_put (cs := #[.string (⟨#[]⟩ : ByteArray), .int .i64 0, .int .i64 0, .int .i64 0, .int .i64 0, .slice none 0 0]) ?_ 0 _ rfl; (with_reducible repeat (first | refine blk_drewN ?_ _ | refine blk_drew ?_ | refine blk_alloc ?_ _)); exact BK167.out⟩
             have n5_ : Aside0 (Below w.heap.size w ((((((w29.setCell ⟨gb167, 0, none⟩ (.string (rdOf ByteArray.empty t149 0))).setCell ⟨gb167, 1, none⟩ (.int .i64 (rd t153 0))).setCell ⟨gb167, 2, none⟩ (.int .i64 (rd t153 1))).setCell ⟨gb167, 3, none⟩ (.int .i64 (rd t153 2))).setCell ⟨gb167, 4, none⟩ (.int .i64 (rd t153 3))).setCell ⟨gb167, 5, none⟩ (.slice Ao28 t158.length co28))) := ⟨bZ⟩
             (try clear HO_4)
             (try clear HO_5)
             (try clear HO_7)
             (try clear BK148)
             (try clear BK167)
             (try clear HB)
             generalize ((((((w29.setCell ⟨gb167, 0, none⟩ (.string (rdOf ByteArray.empty t149 0))).setCell ⟨gb167, 1, none⟩ (.int .i64 (rd t153 0))).setCell ⟨gb167, 2, none⟩ (.int .i64 (rd t153 1))).setCell ⟨gb167, 3, none⟩ (.int .i64 (rd t153 2))).setCell ⟨gb167, 4, none⟩ (.int .i64 (rd t153 3))).setCell ⟨gb167, 5, none⟩ (.slice Ao28 t158.length co28)) = w36 at n0_ n1_ n2_ n3_ n4_ n5_ ⊢
             have HO_4 := n0_
             have HO_5 := n1_
             have HO_7 := n2_
             have BK148 := n3_
             have BK167 := n4_
             have HB := n5_
             clear n0_ n1_ n2_ n3_ n4_ n5_
             try go_wp2_with (first | ((with_reducible refine gate_callee (f := 28) rfl ?_); refine goesL_ (some 59) rfl rfl Tryz.func28 (by kernel_rfl) rfl #[.pointer (some ⟨gb167, 0, none⟩)] rfl gZ ?_; (with_reducible refine (spec_l05One.calls kj7 _ (rdOf ByteArray.empty t149 0) (rd t153 0) (rd t153 1) (rd t153 2) (rd t153 3) Ao28 co28 t158 true _ ?side1 ?side2 ?side3 A24.out).mono ?_); (case side1 => exact Kd.cZ HO_7.out); (case side2 => exact (Kd.R_reads' HO_7.out).2.1); (case side3 => exact ViewAt.of_blk (kZ BK167.out)); rintro e w' ⟨rfl, ⟨nd, rfl⟩⟩; refine ⟨_, rfl, ?_⟩; (try (rw [drewN_self w36]; generalize hq_ : World.drewN w36 _ = w36; have n0_ : Aside0 (Kd.R Kd.string 9 w36 w.heap.size (fun _ => True) (.slice (some ad152) t149.length co11) t149) := ⟨by rw [← hq_]; exact (Kd.rZ HO_4.out)⟩; have n1_ : Aside0 (Kd.R (Kd.int .i64) 2 w36 w.heap.size (fun k_ => some k_ ≠ (.slice Ao28 t158.length co28 : Value).ownBlock) (.slice (some ad163) t153.length co27) t153) := ⟨by rw [← hq_]; exact (Kd.rZ HO_5.out)⟩; have n2_ : Aside0 (Kd.R (Kd.int .i64) 2 w36 w.heap.size (fun k_ => some k_ ≠ (.slice (some ad163) t153.length co27 : Value).ownBlock) (.slice Ao28 t158.length co28) t158) := ⟨by rw [← hq_]; exact (Kd.rZ HO_7.out)⟩; have n3_ := Aside0.mk (kdN hq_ (kZ BK148.out)); have n4_ := Aside0.mk (kdN hq_ (kZ BK167.out)); have n5_ := Aside0.mk (bdN hq_ bZ); clear HO_4 HO_5 HO_7 BK148 BK167 HB hq_; have HO_4 := n0_; have HO_5 := n1_; have HO_7 := n2_; have BK148 := n3_; have BK167 := n4_; have HB := n5_; clear n0_ n1_ n2_ n3_ n4_ n5_)); have hnb37 := NB167_148.out; have hnc37 := NB148_167.out; have hcz38_0 := bc0 BK167.out; have hcz38_1 := bc1 BK167.out; have hcz38_2 := bc2 BK167.out; have hcz38_3 := bc3 BK167.out; have hcz38_4 := bc4 BK167.out; have hcz38_5 := bc5 BK167.out; have hfz38_0 := blk_frozen BK167.out 0; have hfz38_1 := blk_frozen BK167.out 1; have hfz38_2 := blk_frozen BK167.out 2; have hfz38_3 := blk_frozen BK167.out 3; have hfz38_4 := blk_frozen BK167.out 4; have hfz38_5 := blk_frozen BK167.out 5; have hcz39_0 := bc0 BK148.out; have hcz39_1 := bc1 BK148.out; have hcz39_2 := bc2 BK148.out; have hcz39_3 := bc3 BK148.out; have hcz39_4 := bc4 BK148.out; have hcz39_5 := bc5 BK148.out; have hfz39_0 := blk_frozen BK148.out 0; have hfz39_1 := blk_frozen BK148.out 1; have hfz39_2 := blk_frozen BK148.out 2; have hfz39_3 := blk_frozen BK148.out 3; have hfz39_4 := blk_frozen BK148.out 4; have hfz39_5 := blk_frozen BK148.out 5))
             refine bodyPost_ret (results_ct rfl _ _ gb148 41 #[.string (rdOf ByteArray.empty t149 0), .int .i64 (rd t153 0), .int .i64 (rd t153 1), .int .i64 (rd t153 2), .int .i64 (rd t153 3), .slice Ao28 t158.length co28] (0, 0) _ rfl (by (with_reducible repeat (first | refine blk_drewN ?_ _ | refine blk_drew ?_ | refine blk_alloc ?_ _)); refine blk_put (cs := #[.string (rdOf ByteArray.empty t149 0), .int .i64 (rd t153 0), .int .i64 (rd t153 1), .int .i64 (rd t153 2), .int .i64 (rd t153 3), .slice none 0 0]) ?_ 5 _ rfl; (with_reducible repeat (first | refine blk_drewN ?_ _ | refine blk_drew ?_ | refine blk_alloc ?_ _)); refine blk_put (cs := #[.string (rdOf ByteArray.empty t149 0), .int .i64 (rd t153 0), .int .i64 (rd t153 1), .int .i64 (rd t153 2), .int .i64 0, .slice none 0 0]) ?_ 4 _ rfl; (with_reducible repeat (first | refine blk_drewN ?_ _ | refine blk_drew ?_ | refine blk_alloc ?_ _)); refine blk_put (cs := #[.string (rdOf ByteArray.empty t149 0), .int .i64 (rd t153 0), .int .i64 (rd t153 1), .int .i64 0, .int .i64 0, .slice none 0 0]) ?_ 3 _ rfl; (with_reducible repeat (first | refine blk_drewN ?_ _ | refine blk_drew ?_ | refine blk_alloc ?_ _)); refine blk_put (cs := #[.string (rdOf ByteArray.empty t149 0), .int .i64 (rd t153 0), .int .i64 0, .int .i64 0, .int .i64 0, .slice none 0 0]) ?_ 2 _ rfl; (with_reducible repeat (first | refine blk_drewN ?_ _ | refine blk_drew ?_ | refine blk_alloc ?_ _)); refine blk_put (cs := #[.string (rdOf ByteArray.empty t149 0), .int .i64 0, .int .i64 0, .int .i64 0, .int .i64 0, .slice none 0 0]) ?_ 1 _ rfl; (with_reducible repeat (first | refine blk_drewN ?_ _ | refine blk_drew ?_ | refine blk_alloc ?_ _)); refine blk_put (cs := #[.string (⟨#[]⟩ : ByteArray), .int .i64 0, .int .i64 0, .int .i64 0, .int .i64 0, .slice none 0 0]) ?_ 0 _ rfl; (with_reducible repeat (first | refine blk_drewN ?_ _ | refine blk_drew ?_ | refine blk_alloc ?_ _)); exact BK148.out) Tryz.underlying41 rfl (by kernel_rfl)) rfl ?_
             exact ⟨_, eZ, Kd.rZ (Kd.R_mono (Kd.R_far (p := ⟨gb148, 5, none⟩) (Kd.R_far (p := ⟨gb148, 4, none⟩) (Kd.R_far (p := ⟨gb148, 3, none⟩) (Kd.R_far (p := ⟨gb148, 2, none⟩) (Kd.R_far (p := ⟨gb148, 1, none⟩) (Kd.R_far (p := ⟨gb148, 0, none⟩) (Kd.R_types HO_7.out BK148.out (by decide)) (fun _ hk => hk.2) (.string (rdOf ByteArray.empty t149 0))) (fun _ hk => hk.2) (.int .i64 (rd t153 0))) (fun _ hk => hk.2) (.int .i64 (rd t153 1))) (fun _ hk => hk.2) (.int .i64 (rd t153 2))) (fun _ hk => hk.2) (.int .i64 (rd t153 3))) (fun _ hk => hk.2) (.slice Ao28 t158.length co28)) (fun _ hk => trivial)), bZ⟩
            ·replace c25 := Bool.eq_false_iff.mpr c25
             subst c25
             have H1 : (some ((⟨#[]⟩ : ByteArray), 0, 0, 0, 0, ([] : List Int), false)) = some (r1, r2, r3, r4, r5, r6, r7) := by rw [if_neg (show ¬ (false = true) by decide)] at H; exact H
             clear H
             have H := H1
             clear H1
             simp only [Option.some.injEq, Prod.mk.injEq] at H
             obtain ⟨rfl, rfl, rfl, rfl, rfl, rfl, rfl⟩ := H
             try go_wp2
             have n0_ := Aside0.mk (Kd.R_drew HO_4.out)
             have n1_ := Aside0.mk (Kd.R_drew HO_5.out)
             have n2_ := Aside0.mk (Kd.R_drew HO_7.out)
             have n3_ := Aside0.mk (blk_drew BK148.out)
             have n4_ := Aside0.mk (below_drew1 HB.out)
             clear HO_4; clear HO_5; clear HO_7; clear BK148; clear HB
             have HO_4 := n0_
             have HO_5 := n1_
             have HO_7 := n2_
             have BK148 := n3_
             have HB := n4_
             clear n0_ n1_ n2_ n3_ n4_
             have p162 : 0 ≤ (0 : Int) := (by omega)
             have q162 : 0 < (t149.length : Int) := oZ
             obtain ⟨ad162, e162, hx162_0⟩ := Kd.at_string (Kd.R_reads' HO_4.out).2.2 0 p162 q162
             obtain rfl : ad152 = ad162 := (by injection e162)
             have qi162 : (0 < t149.length) = True := eq_true (by omega)
             (try rw [show ((0 : Int)).toNat = 0 from rfl] at hx162_0)
             (try rw [Addr.add_zero'] at hx162_0)
             replace p162 := eq_true p162
             replace q162 := eq_true q162
             obtain ⟨Ao41, co41, eo41⟩ := Kd.R_slice HO_5.out
             (first | subst eo41 | (injection eo41 with f1_ f2_ f3_; have f4_ := f1_.symm; have f5_ := f3_.symm; clear f1_ f2_ f3_; subst f4_; subst f5_))
             have p163 : 0 ≤ (0 : Int) := (by omega)
             have q163 : 0 < (t153.length : Int) := oZ
             obtain ⟨ad163, e163, hx163_0⟩ := Kd.at_int (Kd.R_reads' HO_5.out).2.2 0 p163 q163
             cases e163
             have qi163 : (0 < t153.length) = True := eq_true (by omega)
             (try rw [show ((0 : Int)).toNat = 0 from rfl] at hx163_0)
             (try rw [Addr.add_zero'] at hx163_0)
             replace p163 := eq_true p163
             replace q163 := eq_true q163
             have p164 : 0 ≤ (1 : Int) := (by omega)
             have q164 : 1 < (t153.length : Int) := oZ
             obtain ⟨ad164, e164, hx164_0⟩ := Kd.at_int (Kd.R_reads' HO_5.out).2.2 1 p164 q164
             obtain rfl : ad163 = ad164 := (by injection e164)
             (try simp only [show (1 : Int).toNat = 1 from rfl, Nat.reduceMul, Nat.reduceEqDiff, Go.Addr.add, ↓reduceIte] at hx164_0)
             have qi164 : (1 < t153.length) = True := eq_true (by omega)
             (try rw [show ((1 : Int)).toNat = 1 from rfl] at hx164_0)
             replace p164 := eq_true p164
             replace q164 := eq_true q164
             have p165 : 0 ≤ (2 : Int) := (by omega)
             have q165 : 2 < (t153.length : Int) := oZ
             obtain ⟨ad165, e165, hx165_0⟩ := Kd.at_int (Kd.R_reads' HO_5.out).2.2 2 p165 q165
             obtain rfl : ad163 = ad165 := (by injection e165)
             (try simp only [show (2 : Int).toNat = 2 from rfl, Nat.reduceMul, Nat.reduceEqDiff, Go.Addr.add, ↓reduceIte] at hx165_0)
             have qi165 : (2 < t153.length) = True := eq_true (by omega)
             (try rw [show ((2 : Int)).toNat = 2 from rfl] at hx165_0)
             replace p165 := eq_true p165
             replace q165 := eq_true q165
             have p166 : 0 ≤ (3 : Int) := (by omega)
             have q166 : 3 < (t153.length : Int) := oZ
             obtain ⟨ad166, e166, hx166_0⟩ := Kd.at_int (Kd.R_reads' HO_5.out).2.2 3 p166 q166
             obtain rfl : ad163 = ad166 := (by injection e166)
             (try simp only [show (3 : Int).toNat = 3 from rfl, Nat.reduceMul, Nat.reduceEqDiff, Go.Addr.add, ↓reduceIte] at hx166_0)
             have qi166 : (3 < t153.length) = True := eq_true (by omega)
             (try rw [show ((3 : Int)).toNat = 3 from rfl] at hx166_0)
             replace p166 := eq_true p166
             replace q166 := eq_true q166
             obtain ⟨Ao42, co42, eo42⟩ := Kd.R_slice HO_7.out
             (first | subst eo42 | (injection eo42 with f1_ f2_ f3_; have f4_ := f1_.symm; have f5_ := f3_.symm; clear f1_ f2_ f3_; subst f4_; subst f5_))
             refine start_ (n := 19) (S := fun w' => w'.cell? ad152 = some (.string (rdOf ByteArray.empty t149 0)) ∧ w'.cell? ad163 = some (.int .i64 (rd t153 0)) ∧ w'.cell? ⟨ad163.block, ad163.off + 1, none⟩ = some (.int .i64 (rd t153 1)) ∧ w'.cell? ⟨ad163.block, ad163.off + 2, none⟩ = some (.int .i64 (rd t153 2)) ∧ w'.cell? ⟨ad163.block, ad163.off + 3, none⟩ = some (.int .i64 (rd t153 3))) (ds := []) #[false, false, false, false, false, false, false, false, false, false, false, false, false, false, false, false, false, false, false] (by kernel_rfl) rfl rfl ⟨hx162_0, hx163_0, hx164_0, hx165_0, hx166_0⟩ (fun hHeld => ?_); refine with_tabW spec_ReadBuilding.tab8 spec_ReadBuilding.bits8 (fun HT_ HW_ => ?_)
             generalize wc.drew = w40 at HO_4 HO_5 HO_7 BK148 HB hx162_0 hx163_0 hx164_0 hx165_0 hx166_0 hHeld ⊢
             refine puZ 0 (some 42) #[true, false, false, false, false, false, false, false, false, false, false, false, false, false, false, false, false, false, false] rfl rfl HT_.out ?_
             refine puZ 1 (some 43) #[true, true, false, false, false, false, false, false, false, false, false, false, false, false, false, false, false, false, false] rfl rfl HT_.out ?_
             refine puZ 3 (some 45) #[true, true, false, true, false, false, false, false, false, false, false, false, false, false, false, false, false, false, false] rfl rfl HT_.out ?_
             refine puZ 4 (some 46) #[true, true, false, true, true, false, false, false, false, false, false, false, false, false, false, false, false, false, false] rfl rfl HT_.out ?_
             refine puZ 6 (some 48) #[true, true, false, true, true, false, true, false, false, false, false, false, false, false, false, false, false, false, false] rfl rfl HT_.out ?_
             refine puZ 7 (some 49) #[true, true, false, true, true, false, true, true, false, false, false, false, false, false, false, false, false, false, false] rfl rfl HT_.out ?_
             refine puZ 9 (some 51) #[true, true, false, true, true, false, true, true, false, true, false, false, false, false, false, false, false, false, false] rfl rfl HT_.out ?_
             refine puZ 10 (some 52) #[true, true, false, true, true, false, true, true, false, true, true, false, false, false, false, false, false, false, false] rfl rfl HT_.out ?_
             refine puZ 12 (some 54) #[true, true, false, true, true, false, true, true, false, true, true, false, true, false, false, false, false, false, false] rfl rfl HT_.out ?_
             refine puZ 13 (some 55) #[true, true, false, true, true, false, true, true, false, true, true, false, true, true, false, false, false, false, false] rfl rfl HT_.out ?_
             refine puZ 15 (some 57) #[true, true, false, true, true, false, true, true, false, true, true, false, true, true, false, true, false, false, false] rfl rfl HT_.out ?_
             refine take_ (i := 2) (N := some 44) (v := ?_) (a' := ?_) #[true, true, true, true, true, false, true, true, false, true, true, false, true, true, false, true, false, false, false] rfl rfl (take_ofW HT_.out HW_.out (by kernel_rfl)) (fun _ _ _ h => h) (Or.inl ⟨by rfl, ?_⟩) hHeld ?_ ?_
             rotate_left
             ·rintro w' ⟨s0, s1, s2, s3, s4⟩
              go_simp
              with_reducible rfl
             rotate_left
             ·simp only [Act.put, List.setIfInBounds_toArray, List.set_cons_zero, List.set_cons_succ, i64_w, i32_w]
              rfl
             refine take_ (i := 5) (N := some 47) (v := ?_) (a' := ?_) #[true, true, true, true, true, true, true, true, false, true, true, false, true, true, false, true, false, false, false] rfl rfl (take_ofW HT_.out HW_.out (by kernel_rfl)) (fun _ _ _ h => h) (Or.inl ⟨by rfl, ?_⟩) hHeld ?_ ?_
             rotate_left
             ·rintro w' ⟨s0, s1, s2, s3, s4⟩
              go_simp
              with_reducible rfl
             rotate_left
             ·simp only [Act.put, List.setIfInBounds_toArray, List.set_cons_zero, List.set_cons_succ, i64_w, i32_w]
              rfl
             refine take_ (i := 8) (N := some 50) (v := ?_) (a' := ?_) #[true, true, true, true, true, true, true, true, true, true, true, false, true, true, false, true, false, false, false] rfl rfl (take_ofW HT_.out HW_.out (by kernel_rfl)) (fun _ _ _ h => h) (Or.inl ⟨by rfl, ?_⟩) hHeld ?_ ?_
             rotate_left
             ·rintro w' ⟨s0, s1, s2, s3, s4⟩
              go_simp
              with_reducible rfl
             rotate_left
             ·simp only [Act.put, List.setIfInBounds_toArray, List.set_cons_zero, List.set_cons_succ, i64_w, i32_w]
              rfl
             refine take_ (i := 11) (N := some 53) (v := ?_) (a' := ?_) #[true, true, true, true, true, true, true, true, true, true, true, true, true, true, false, true, false, false, false] rfl rfl (take_ofW HT_.out HW_.out (by kernel_rfl)) (fun _ _ _ h => h) (Or.inl ⟨by rfl, ?_⟩) hHeld ?_ ?_
             rotate_left
             ·rintro w' ⟨s0, s1, s2, s3, s4⟩
              go_simp
              with_reducible rfl
             rotate_left
             ·simp only [Act.put, List.setIfInBounds_toArray, List.set_cons_zero, List.set_cons_succ, i64_w, i32_w]
              rfl
             refine take_ (i := 14) (N := some 56) (v := ?_) (a' := ?_) #[true, true, true, true, true, true, true, true, true, true, true, true, true, true, true, true, false, false, false] rfl rfl (take_ofW HT_.out HW_.out (by kernel_rfl)) (fun _ _ _ h => h) (Or.inl ⟨by rfl, ?_⟩) hHeld ?_ ?_
             rotate_left
             ·rintro w' ⟨s0, s1, s2, s3, s4⟩
              go_simp
              with_reducible rfl
             rotate_left
             ·simp only [Act.put, List.setIfInBounds_toArray, List.set_cons_zero, List.set_cons_succ, i64_w, i32_w]
              rfl
             refine puZ 16 (some 58) #[true, true, true, true, true, true, true, true, true, true, true, true, true, true, true, true, true, false, false] rfl rfl HT_.out ?_
             refine one_ (i := 17) (N := some 9) #[true, true, true, true, true, true, true, true, true, true, true, true, true, true, true, true, true, true, false] rfl rfl (one_of HT_.out (by kernel_rfl)) (by decide) (fun K hK => ?_)
             refine box_step ?hg (N := 9) ?hd (cs := #[.string (⟨#[]⟩ : ByteArray), .int .i64 0, .int .i64 0, .int .i64 0, .int .i64 0, .slice none 0 0]) (t := 41) ?hr ?_; (case hd => rfl); (case hg => rfl); (case hr => first | (go_simp; done) | (go_simp; rfl))
             intro gb167 hg w43 hbox hb
             have HS0_ := (hb.cell (World.block_lt_of_cell? _ _ (hHeld.1))).trans (hHeld.1)
             have HS1_ := (hb.cell (World.block_lt_of_cell? _ _ (hHeld.2.1))).trans (hHeld.2.1)
             have HS2_ := (hb.cell (World.block_lt_of_cell? _ _ (hHeld.2.2.1))).trans (hHeld.2.2.1)
             have HS3_ := (hb.cell (World.block_lt_of_cell? _ _ (hHeld.2.2.2.1))).trans (hHeld.2.2.2.1)
             have HS4_ := (hb.cell (World.block_lt_of_cell? _ _ (hHeld.2.2.2.2))).trans (hHeld.2.2.2.2)
             have n0_ := Aside0.mk (Kd.R_below (Kd.rZ HO_4.out) hb)
             have n1_ := Aside0.mk (Kd.R_below (Kd.rZ HO_5.out) hb)
             have n2_ := Aside0.mk (Kd.R_below (Kd.rZ HO_7.out) hb)
             have n3_ := Aside0.mk (blk_below (g := gb148) (o := .cells #[.string (⟨#[]⟩ : ByteArray), .int .i64 0, .int .i64 0, .int .i64 0, .int .i64 0, .slice none 0 0] 41 (0, 0)) (kZ BK148.out) hb)
             have n4_ := Aside0.mk (below_step bZ hb)
             have n5_ := Aside0.mk (hbox)
             have n6_ := Aside0.mk ((by rw [hg]; exact bsZ : w.heap.size ≤ gb167))
             have n7_ := Aside0.mk ((by rw [hg]; exact bsZ : w.heap.size ≤ gb167))
             have n8_ := Aside0.mk ((by rw [hg]; exact Nat.ne_of_lt (blk_lt (g := gb148) (o := .cells #[.string (⟨#[]⟩ : ByteArray), .int .i64 0, .int .i64 0, .int .i64 0, .int .i64 0, .slice none 0 0] 41 (0, 0)) (kZ BK148.out)) : gb148 ≠ gb167))
             have n9_ := Aside0.mk ((by rw [hg]; exact Nat.ne_of_gt (blk_lt (g := gb148) (o := .cells #[.string (⟨#[]⟩ : ByteArray), .int .i64 0, .int .i64 0, .int .i64 0, .int .i64 0, .slice none 0 0] 41 (0, 0)) (kZ BK148.out)) : gb167 ≠ gb148))
             clear HO_4; clear HO_5; clear HO_7; clear BK148; clear HB
             have HO_4 := n0_
             have HO_5 := n1_
             have HO_7 := n2_
             have BK148 := n3_
             have HB := n4_
             have BK167 := n5_
             have GW167 := n6_
             have GE167 := n7_
             have NB148_167 := n8_
             have NB167_148 := n9_
             clear n0_ n1_ n2_ n3_ n4_ n5_ n6_ n7_ n8_ n9_
             clear hb hbox hg
             refine hK.out _ _ ⟨HS0_, HS1_, HS2_, HS3_, HS4_⟩ (fun hHeld => ?_)
             clear hK K
             refine norm_ (a' := ?_) ?_ ?_
             rotate_left
             ·show Act.put _ (some 9) _ = _
              simp only [Act.put, List.setIfInBounds_toArray, List.set_cons_zero, List.set_cons_succ, i64_w, i32_w]
              rfl
             refine one_ (i := 18) (N := none) #[true, true, true, true, true, true, true, true, true, true, true, true, true, true, true, true, true, true, true] rfl rfl (one_of HT_.out (by kernel_rfl)) (by decide) (fun K hK => ?_)
             have hs44 := bc0 BK167.out
             have hfs44 := blk_frozen BK167.out 0
             have hns44_0 := NB148_167.out
             have hms44_0 := NB167_148.out
             have hs45 := bc1 BK167.out
             have hfs45 := blk_frozen BK167.out 1
             have hns45_0 := NB148_167.out
             have hms45_0 := NB167_148.out
             have hs46 := bc2 BK167.out
             have hfs46 := blk_frozen BK167.out 2
             have hns46_0 := NB148_167.out
             have hms46_0 := NB167_148.out
             have hs47 := bc3 BK167.out
             have hfs47 := blk_frozen BK167.out 3
             have hns47_0 := NB148_167.out
             have hms47_0 := NB167_148.out
             have hs48 := bc4 BK167.out
             have hfs48 := blk_frozen BK167.out 4
             have hns48_0 := NB148_167.out
             have hms48_0 := NB167_148.out
             have hs49 := bc5 BK167.out
             have hfs49 := blk_frozen BK167.out 5
             have hns49_0 := NB148_167.out
             have hms49_0 := NB167_148.out
             refine skip_ (w1 := ?_) (by rfl) rfl ?_ ?_
             rotate_left
             ·go_simp
              rfl
             refine hK.out _ _ ⟨(far6 (by first | (dsimp only; exact Kd.own_blk (Kd.R_ne HO_4.out BK167.out (by decide))) | exact Kd.own_blk (Kd.R_ne HO_4.out BK167.out (by decide)) | (rw [add_block]; exact Kd.own_blk (Kd.R_ne HO_4.out BK167.out (by decide)))) (hHeld.1)), (far6 (by first | (dsimp only; exact Kd.own_blk (Kd.R_ne HO_5.out BK167.out (by decide))) | exact Kd.own_blk (Kd.R_ne HO_5.out BK167.out (by decide)) | (rw [add_block]; exact Kd.own_blk (Kd.R_ne HO_5.out BK167.out (by decide)))) (hHeld.2.1)), (far6 (by first | (dsimp only; exact Kd.own_blk (Kd.R_ne HO_5.out BK167.out (by decide))) | exact Kd.own_blk (Kd.R_ne HO_5.out BK167.out (by decide)) | (rw [add_block]; exact Kd.own_blk (Kd.R_ne HO_5.out BK167.out (by decide)))) (hHeld.2.2.1)), (far6 (by first | (dsimp only; exact Kd.own_blk (Kd.R_ne HO_5.out BK167.out (by decide))) | exact Kd.own_blk (Kd.R_ne HO_5.out BK167.out (by decide)) | (rw [add_block]; exact Kd.own_blk (Kd.R_ne HO_5.out BK167.out (by decide)))) (hHeld.2.2.2.1)), (far6 (by first | (dsimp only; exact Kd.own_blk (Kd.R_ne HO_5.out BK167.out (by decide))) | exact Kd.own_blk (Kd.R_ne HO_5.out BK167.out (by decide)) | (rw [add_block]; exact Kd.own_blk (Kd.R_ne HO_5.out BK167.out (by decide)))) (hHeld.2.2.2.2))⟩ (fun hHeld => ?_)
             clear hK K
             refine done_ (done_of HT_.out (by kernel_rfl)) ?_
             have n0_ : Aside0 (Kd.R Kd.string 9 ((((((w43.setCell ⟨gb167, 0, none⟩ (.string (rdOf ByteArray.empty t149 0))).setCell ⟨gb167, 1, none⟩ (.int .i64 (rd t153 0))).setCell ⟨gb167, 2, none⟩ (.int .i64 (rd t153 1))).setCell ⟨gb167, 3, none⟩ (.int .i64 (rd t153 2))).setCell ⟨gb167, 4, none⟩ (.int .i64 (rd t153 3))).setCell ⟨gb167, 5, none⟩ (.slice Ao42 t158.length co42)) w.heap.size (fun _ => True) (.slice (some ad152) t149.length co11) t149) := ⟨Kd.rZ (Kd.R_mono (Kd.R_far (p := ⟨gb167, 5, none⟩) (Kd.R_far (p := ⟨gb167, 4, none⟩) (Kd.R_far (p := ⟨gb167, 3, none⟩) (Kd.R_far (p := ⟨gb167, 2, none⟩) (Kd.R_far (p := ⟨gb167, 1, none⟩) (Kd.R_far (p := ⟨gb167, 0, none⟩) (Kd.R_types HO_4.out BK167.out (by decide)) (fun _ hk => hk.2) (.string (rdOf ByteArray.empty t149 0))) (fun _ hk => hk.2) (.int .i64 (rd t153 0))) (fun _ hk => hk.2) (.int .i64 (rd t153 1))) (fun _ hk => hk.2) (.int .i64 (rd t153 2))) (fun _ hk => hk.2) (.int .i64 (rd t153 3))) (fun _ hk => hk.2) (.slice Ao42 t158.length co42)) (fun _ hk => trivial))⟩
             have n1_ : Aside0 (Kd.R (Kd.int .i64) 2 ((((((w43.setCell ⟨gb167, 0, none⟩ (.string (rdOf ByteArray.empty t149 0))).setCell ⟨gb167, 1, none⟩ (.int .i64 (rd t153 0))).setCell ⟨gb167, 2, none⟩ (.int .i64 (rd t153 1))).setCell ⟨gb167, 3, none⟩ (.int .i64 (rd t153 2))).setCell ⟨gb167, 4, none⟩ (.int .i64 (rd t153 3))).setCell ⟨gb167, 5, none⟩ (.slice Ao42 t158.length co42)) w.heap.size (fun k_ => some k_ ≠ (.slice Ao42 t158.length co42 : Value).ownBlock) (.slice (some ad163) t153.length co41) t153) := ⟨Kd.rZ (Kd.R_mono (Kd.R_far (p := ⟨gb167, 5, none⟩) (Kd.R_far (p := ⟨gb167, 4, none⟩) (Kd.R_far (p := ⟨gb167, 3, none⟩) (Kd.R_far (p := ⟨gb167, 2, none⟩) (Kd.R_far (p := ⟨gb167, 1, none⟩) (Kd.R_far (p := ⟨gb167, 0, none⟩) (Kd.R_types HO_5.out BK167.out (by decide)) (fun _ hk => hk.2) (.string (rdOf ByteArray.empty t149 0))) (fun _ hk => hk.2) (.int .i64 (rd t153 0))) (fun _ hk => hk.2) (.int .i64 (rd t153 1))) (fun _ hk => hk.2) (.int .i64 (rd t153 2))) (fun _ hk => hk.2) (.int .i64 (rd t153 3))) (fun _ hk => hk.2) (.slice Ao42 t158.length co42)) (fun _ hk => hk.1))⟩
             have n2_ : Aside0 (Kd.R (Kd.int .i64) 2 ((((((w43.setCell ⟨gb167, 0, none⟩ (.string (rdOf ByteArray.empty t149 0))).setCell ⟨gb167, 1, none⟩ (.int .i64 (rd t153 0))).setCell ⟨gb167, 2, none⟩ (.int .i64 (rd t153 1))).setCell ⟨gb167, 3, none⟩ (.int .i64 (rd t153 2))).setCell ⟨gb167, 4, none⟩ (.int .i64 (rd t153 3))).setCell ⟨gb167, 5, none⟩ (.slice Ao42 t158.length co42)) w.heap.size (fun k_ => some k_ ≠ (.slice (some ad163) t153.length co41 : Value).ownBlock) (.slice Ao42 t158.length co42) t158) := ⟨Kd.rZ (Kd.R_mono (Kd.R_far (p := ⟨gb167, 5, none⟩) (Kd.R_far (p := ⟨gb167, 4, none⟩) (Kd.R_far (p := ⟨gb167, 3, none⟩) (Kd.R_far (p := ⟨gb167, 2, none⟩) (Kd.R_far (p := ⟨gb167, 1, none⟩) (Kd.R_far (p := ⟨gb167, 0, none⟩) (Kd.R_types HO_7.out BK167.out (by decide)) (fun _ hk => hk.2) (.string (rdOf ByteArray.empty t149 0))) (fun _ hk => hk.2) (.int .i64 (rd t153 0))) (fun _ hk => hk.2) (.int .i64 (rd t153 1))) (fun _ hk => hk.2) (.int .i64 (rd t153 2))) (fun _ hk => hk.2) (.int .i64 (rd t153 3))) (fun _ hk => hk.2) (.slice Ao42 t158.length co42)) (fun _ hk => hk.1))⟩
             have n3_ : Aside0 (((((((w43.setCell ⟨gb167, 0, none⟩ (.string (rdOf ByteArray.empty t149 0))).setCell ⟨gb167, 1, none⟩ (.int .i64 (rd t153 0))).setCell ⟨gb167, 2, none⟩ (.int .i64 (rd t153 1))).setCell ⟨gb167, 3, none⟩ (.int .i64 (rd t153 2))).setCell ⟨gb167, 4, none⟩ (.int .i64 (rd t153 3))).setCell ⟨gb167, 5, none⟩ (.slice Ao42 t158.length co42)).heap[gb148]? = some (.cells #[.string (⟨#[]⟩ : ByteArray), .int .i64 0, .int .i64 0, .int .i64 0, .int .i64 0, .slice none 0 0] 41 (0, 0))) := ⟨by (with_reducible repeat (first | refine blk_drewN ?_ _ | refine blk_drew ?_ | refine blk_alloc ?_ _)); refine blk_far ?_ NB148_167.out _; (with_reducible repeat (first | refine blk_drewN ?_ _ | refine blk_drew ?_ | refine blk_alloc ?_ _)); refine blk_far ?_ NB148_167.out _; (with_reducible repeat (first | refine blk_drewN ?_ _ | refine blk_drew ?_ | refine blk_alloc ?_ _)); refine blk_far ?_ NB148_167.out _; (with_reducible repeat (first | refine blk_drewN ?_ _ | refine blk_drew ?_ | refine blk_alloc ?_ _)); refine blk_far ?_ NB148_167.out _; (with_reducible repeat (first | refine blk_drewN ?_ _ | refine blk_drew ?_ | refine blk_alloc ?_ _)); refine blk_far ?_ NB148_167.out _; (with_reducible repeat (first | refine blk_drewN ?_ _ | refine blk_drew ?_ | refine blk_alloc ?_ _)); refine blk_far ?_ NB148_167.out _; (with_reducible repeat (first | refine blk_drewN ?_ _ | refine blk_drew ?_ | refine blk_alloc ?_ _)); exact BK148.out⟩
             have n4_ : Aside0 (((((((w43.setCell ⟨gb167, 0, none⟩ (.string (rdOf ByteArray.empty t149 0))).setCell ⟨gb167, 1, none⟩ (.int .i64 (rd t153 0))).setCell ⟨gb167, 2, none⟩ (.int .i64 (rd t153 1))).setCell ⟨gb167, 3, none⟩ (.int .i64 (rd t153 2))).setCell ⟨gb167, 4, none⟩ (.int .i64 (rd t153 3))).setCell ⟨gb167, 5, none⟩ (.slice Ao42 t158.length co42)).heap[gb167]? = some (.cells #[.string (rdOf ByteArray.empty t149 0), .int .i64 (rd t153 0), .int .i64 (rd t153 1), .int .i64 (rd t153 2), .int .i64 (rd t153 3), .slice Ao42 t158.length co42] 41 (0, 0))) := ⟨by (with_reducible repeat (first | refine blk_drewN ?_ _ | refine blk_drew ?_ | refine blk_alloc ?_ _)); refine blk_put (cs := #[.string (rdOf ByteArray.empty t149 0), .int .i64 (rd t153 0), .int .i64 (rd t153 1), .int .i64 (rd t153 2), .int .i64 (rd t153 3), .slice none 0 0]) ?_ 5 _ rfl; (with_reducible repeat (first | refine blk_drewN ?_ _ | refine blk_drew ?_ | refine blk_alloc ?_ _)); refine blk_put (cs := #[.string (rdOf ByteArray.empty t149 0), .int .i64 (rd t153 0), .int .i64 (rd t153 1), .int .i64 (rd t153 2), .int .i64 0, .slice none 0 0]) ?_ 4 _ rfl; (with_reducible repeat (first | refine blk_drewN ?_ _ | refine blk_drew ?_ | refine blk_alloc ?_ _)); refine blk_put (cs := #[.string (rdOf ByteArray.empty t149 0), .int .i64 (rd t153 0), .int .i64 (rd t153 1), .int .i64 0, .int .i64 0, .slice none 0 0]) ?_ 3 _ rfl; (with_reducible repeat (first | refine blk_drewN ?_ _ | refine blk_drew ?_ | refine blk_alloc ?_ _)); refine blk_put (cs := #[.string (rdOf ByteArray.empty t149 0), .int .i64 (rd t153 0), .int .i64 0, .int .i64 0, .int .i64 0, .slice none 0 0]) ?_ 2 _ rfl; (with_reducible repeat (first | refine blk_drewN ?_ _ | refine blk_drew ?_ | refine blk_alloc ?_ _)); refine blk_put (cs := #[.string (rdOf ByteArray.empty t149 0), .int .i64 0, .int .i64 0, .int .i64 0, .int .i64 0, .slice none 0 0]) ?_ 1 _ rfl; (with_reducible repeat (first | refine blk_drewN ?_ _ | refine blk_drew ?_ | refine blk_alloc ?_ _)); refine blk_put (cs := #[.string (⟨#[]⟩ : ByteArray), .int .i64 0, .int .i64 0, .int .i64 0, .int .i64 0, .slice none 0 0]) ?_ 0 _ rfl; (with_reducible repeat (first | refine blk_drewN ?_ _ | refine blk_drew ?_ | refine blk_alloc ?_ _)); exact BK167.out⟩
             have n5_ : Aside0 (Below w.heap.size w ((((((w43.setCell ⟨gb167, 0, none⟩ (.string (rdOf ByteArray.empty t149 0))).setCell ⟨gb167, 1, none⟩ (.int .i64 (rd t153 0))).setCell ⟨gb167, 2, none⟩ (.int .i64 (rd t153 1))).setCell ⟨gb167, 3, none⟩ (.int .i64 (rd t153 2))).setCell ⟨gb167, 4, none⟩ (.int .i64 (rd t153 3))).setCell ⟨gb167, 5, none⟩ (.slice Ao42 t158.length co42))) := ⟨bZ⟩
             (try clear HO_4)
             (try clear HO_5)
             (try clear HO_7)
             (try clear BK148)
             (try clear BK167)
             (try clear HB)
             generalize ((((((w43.setCell ⟨gb167, 0, none⟩ (.string (rdOf ByteArray.empty t149 0))).setCell ⟨gb167, 1, none⟩ (.int .i64 (rd t153 0))).setCell ⟨gb167, 2, none⟩ (.int .i64 (rd t153 1))).setCell ⟨gb167, 3, none⟩ (.int .i64 (rd t153 2))).setCell ⟨gb167, 4, none⟩ (.int .i64 (rd t153 3))).setCell ⟨gb167, 5, none⟩ (.slice Ao42 t158.length co42)) = w50 at n0_ n1_ n2_ n3_ n4_ n5_ ⊢
             have HO_4 := n0_
             have HO_5 := n1_
             have HO_7 := n2_
             have BK148 := n3_
             have BK167 := n4_
             have HB := n5_
             clear n0_ n1_ n2_ n3_ n4_ n5_
             try go_wp2_with (first | ((with_reducible refine gate_callee (f := 28) rfl ?_); refine goesL_ (some 59) rfl rfl Tryz.func28 (by kernel_rfl) rfl #[.pointer (some ⟨gb167, 0, none⟩)] rfl gZ ?_; (with_reducible refine (spec_l05One.calls kj7 _ (rdOf ByteArray.empty t149 0) (rd t153 0) (rd t153 1) (rd t153 2) (rd t153 3) Ao42 co42 t158 false _ ?side1 ?side2 ?side3 A24.out).mono ?_); (case side1 => exact Kd.cZ HO_7.out); (case side2 => exact (Kd.R_reads' HO_7.out).2.1); (case side3 => exact ViewAt.of_blk (kZ BK167.out)); rintro e w' ⟨rfl, ⟨nd, rfl⟩⟩; refine ⟨_, rfl, ?_⟩; (try (rw [drewN_self w50]; generalize hq_ : World.drewN w50 _ = w50; have n0_ : Aside0 (Kd.R Kd.string 9 w50 w.heap.size (fun _ => True) (.slice (some ad152) t149.length co11) t149) := ⟨by rw [← hq_]; exact (Kd.rZ HO_4.out)⟩; have n1_ : Aside0 (Kd.R (Kd.int .i64) 2 w50 w.heap.size (fun k_ => some k_ ≠ (.slice Ao42 t158.length co42 : Value).ownBlock) (.slice (some ad163) t153.length co41) t153) := ⟨by rw [← hq_]; exact (Kd.rZ HO_5.out)⟩; have n2_ : Aside0 (Kd.R (Kd.int .i64) 2 w50 w.heap.size (fun k_ => some k_ ≠ (.slice (some ad163) t153.length co41 : Value).ownBlock) (.slice Ao42 t158.length co42) t158) := ⟨by rw [← hq_]; exact (Kd.rZ HO_7.out)⟩; have n3_ := Aside0.mk (kdN hq_ (kZ BK148.out)); have n4_ := Aside0.mk (kdN hq_ (kZ BK167.out)); have n5_ := Aside0.mk (bdN hq_ bZ); clear HO_4 HO_5 HO_7 BK148 BK167 HB hq_; have HO_4 := n0_; have HO_5 := n1_; have HO_7 := n2_; have BK148 := n3_; have BK167 := n4_; have HB := n5_; clear n0_ n1_ n2_ n3_ n4_ n5_)); have hnb51 := NB148_167.out; have hnc51 := NB167_148.out; have hcz52_0 := bc0 BK148.out; have hcz52_1 := bc1 BK148.out; have hcz52_2 := bc2 BK148.out; have hcz52_3 := bc3 BK148.out; have hcz52_4 := bc4 BK148.out; have hcz52_5 := bc5 BK148.out; have hfz52_0 := blk_frozen BK148.out 0; have hfz52_1 := blk_frozen BK148.out 1; have hfz52_2 := blk_frozen BK148.out 2; have hfz52_3 := blk_frozen BK148.out 3; have hfz52_4 := blk_frozen BK148.out 4; have hfz52_5 := blk_frozen BK148.out 5))
             refine bodyPost_ret (results_ct rfl _ _ gb148 41 #[.string (⟨#[]⟩ : ByteArray), .int .i64 0, .int .i64 0, .int .i64 0, .int .i64 0, .slice none 0 0] (0, 0) _ rfl (by (with_reducible repeat (first | refine blk_drewN ?_ _ | refine blk_drew ?_ | refine blk_alloc ?_ _)); refine blk_put (cs := #[.string (⟨#[]⟩ : ByteArray), .int .i64 0, .int .i64 0, .int .i64 0, .int .i64 0, .slice none 0 0]) ?_ 5 _ rfl; (with_reducible repeat (first | refine blk_drewN ?_ _ | refine blk_drew ?_ | refine blk_alloc ?_ _)); refine blk_put (cs := #[.string (⟨#[]⟩ : ByteArray), .int .i64 0, .int .i64 0, .int .i64 0, .int .i64 0, .slice none 0 0]) ?_ 4 _ rfl; (with_reducible repeat (first | refine blk_drewN ?_ _ | refine blk_drew ?_ | refine blk_alloc ?_ _)); refine blk_put (cs := #[.string (⟨#[]⟩ : ByteArray), .int .i64 0, .int .i64 0, .int .i64 0, .int .i64 0, .slice none 0 0]) ?_ 3 _ rfl; (with_reducible repeat (first | refine blk_drewN ?_ _ | refine blk_drew ?_ | refine blk_alloc ?_ _)); refine blk_put (cs := #[.string (⟨#[]⟩ : ByteArray), .int .i64 0, .int .i64 0, .int .i64 0, .int .i64 0, .slice none 0 0]) ?_ 2 _ rfl; (with_reducible repeat (first | refine blk_drewN ?_ _ | refine blk_drew ?_ | refine blk_alloc ?_ _)); refine blk_put (cs := #[.string (⟨#[]⟩ : ByteArray), .int .i64 0, .int .i64 0, .int .i64 0, .int .i64 0, .slice none 0 0]) ?_ 1 _ rfl; (with_reducible repeat (first | refine blk_drewN ?_ _ | refine blk_drew ?_ | refine blk_alloc ?_ _)); refine blk_put (cs := #[.string (⟨#[]⟩ : ByteArray), .int .i64 0, .int .i64 0, .int .i64 0, .int .i64 0, .slice none 0 0]) ?_ 0 _ rfl; (with_reducible repeat (first | refine blk_drewN ?_ _ | refine blk_drew ?_ | refine blk_alloc ?_ _)); exact BK148.out) Tryz.underlying41 rfl (by kernel_rfl)) rfl ?_
             exact ⟨_, eZ, by first | exact Kd.R_nil _ _ _ _ _ | exact Kd.N_nil _ _ _ _ _ | exact Kd.V_nil _ _ _ _ _ | exact Kd.Q_nil _ _ _ _ _ | exact Kd.S_nil _ _ _ _ _, bZ⟩
           ·rw [if_neg c23] at H
            exact absurd H (by simp)
          ·rw [if_neg c22] at H
           exact absurd H (by simp)
         ·rw [if_neg c21] at H
          exact absurd H (by simp)
        ·rw [if_neg c20] at H
         exact absurd H (by simp)
       ·rw [if_neg c19] at H
        exact absurd H (by simp)
   ·rw [if_neg c6] at H
    exact absurd H (by simp)
  ·rw [if_neg c4] at H
   exact absurd H (by simp)
 ·rw [if_neg c3] at H
  have c3b0 : ((t149.length : Int) == 3) = false := beq_eq_false_iff_ne.mpr c3
  have c3b1 : ((t149.length : Int) != 3) = true := bne_iff_ne.mpr c3
  simp only [Option.some.injEq, Prod.mk.injEq] at H
  obtain ⟨rfl, rfl, rfl, rfl, rfl, rfl, rfl⟩ := H
  go_enter Tryz.func15, Tryz.ntmps15
  go_wp2_with (first | ((with_reducible refine gate_dst (N := 2) rfl ?_); (try (refine gate_guard (by rfl) ?_; dsimp only)); refine boxZ 2 #[.string (⟨#[]⟩ : ByteArray), .int .i64 0, .int .i64 0, .int .i64 0, .int .i64 0, .slice none 0 0] 41 rfl rfl ?_; intro gb148 hg w53 hbox hb; have n0_ := Aside0.mk (below_step bZ hb); have n1_ := Aside0.mk (hbox); have n2_ := Aside0.mk ((by rw [hg]; exact bsZ : w.heap.size ≤ gb148)); have n3_ := Aside0.mk ((by rw [hg]; exact bsZ : w.heap.size ≤ gb148)); clear HB; have HB := n0_; have BK148 := n1_; have GW148 := n2_; have GE148 := n3_; clear n0_ n1_ n2_ n3_; clear hb hbox hg) | ((with_reducible refine gate_callee (f := 26) rfl ?_); refine goesL_ (some 11) rfl rfl Tryz.func26 (by kernel_rfl) rfl #[.string a0, .int .u8 32] rfl gZ ?_; (with_reducible refine (spec_l01Split.calls k a0 32 t149 _ A2.out).mono ?_); rintro e w54 ⟨v150, rfl, ho0, hb⟩; refine ⟨_, rfl, ?_⟩; have n0_ := Aside0.mk (Kd.R_lower ho0 bsZ); have n1_ := Aside0.mk (blk_below (g := gb148) (o := .cells #[.string (⟨#[]⟩ : ByteArray), .int .i64 0, .int .i64 0, .int .i64 0, .int .i64 0, .slice none 0 0] 41 (0, 0)) (kZ BK148.out) hb); have n2_ := Aside0.mk (below_step bZ hb); clear BK148; clear HB; have HO151 := n0_; have BK148 := n1_; have HB := n2_; clear n0_ n1_ n2_; (try clear hb); (try clear hb2); (try clear hk); (try clear hi); (try clear ho0); obtain ⟨Ao55, co55, eo55⟩ := Kd.R_slice HO151.out; subst eo55; have hcz56_0 := bc0 BK148.out; have hcz56_1 := bc1 BK148.out; have hcz56_2 := bc2 BK148.out; have hcz56_3 := bc3 BK148.out; have hcz56_4 := bc4 BK148.out; have hcz56_5 := bc5 BK148.out; have hfz56_0 := blk_frozen BK148.out 0; have hfz56_1 := blk_frozen BK148.out 1; have hfz56_2 := blk_frozen BK148.out 2; have hfz56_3 := blk_frozen BK148.out 3; have hfz56_4 := blk_frozen BK148.out 4; have hfz56_5 := blk_frozen BK148.out 5))
  refine bodyPost_ret (results_ct rfl _ _ gb148 41 #[.string (⟨#[]⟩ : ByteArray), .int .i64 0, .int .i64 0, .int .i64 0, .int .i64 0, .slice none 0 0] (0, 0) _ rfl (by (with_reducible repeat (first | refine blk_drewN ?_ _ | refine blk_drew ?_ | refine blk_alloc ?_ _)); refine blk_put (cs := #[.string (⟨#[]⟩ : ByteArray), .int .i64 0, .int .i64 0, .int .i64 0, .int .i64 0, .slice none 0 0]) ?_ 5 _ rfl; (with_reducible repeat (first | refine blk_drewN ?_ _ | refine blk_drew ?_ | refine blk_alloc ?_ _)); refine blk_put (cs := #[.string (⟨#[]⟩ : ByteArray), .int .i64 0, .int .i64 0, .int .i64 0, .int .i64 0, .slice none 0 0]) ?_ 4 _ rfl; (with_reducible repeat (first | refine blk_drewN ?_ _ | refine blk_drew ?_ | refine blk_alloc ?_ _)); refine blk_put (cs := #[.string (⟨#[]⟩ : ByteArray), .int .i64 0, .int .i64 0, .int .i64 0, .int .i64 0, .slice none 0 0]) ?_ 3 _ rfl; (with_reducible repeat (first | refine blk_drewN ?_ _ | refine blk_drew ?_ | refine blk_alloc ?_ _)); refine blk_put (cs := #[.string (⟨#[]⟩ : ByteArray), .int .i64 0, .int .i64 0, .int .i64 0, .int .i64 0, .slice none 0 0]) ?_ 2 _ rfl; (with_reducible repeat (first | refine blk_drewN ?_ _ | refine blk_drew ?_ | refine blk_alloc ?_ _)); refine blk_put (cs := #[.string (⟨#[]⟩ : ByteArray), .int .i64 0, .int .i64 0, .int .i64 0, .int .i64 0, .slice none 0 0]) ?_ 1 _ rfl; (with_reducible repeat (first | refine blk_drewN ?_ _ | refine blk_drew ?_ | refine blk_alloc ?_ _)); refine blk_put (cs := #[.string (⟨#[]⟩ : ByteArray), .int .i64 0, .int .i64 0, .int .i64 0, .int .i64 0, .slice none 0 0]) ?_ 0 _ rfl; (with_reducible repeat (first | refine blk_drewN ?_ _ | refine blk_drew ?_ | refine blk_alloc ?_ _)); exact BK148.out) Tryz.underlying41 rfl (by kernel_rfl)) rfl ?_
  exact ⟨_, eZ, by first | exact Kd.R_nil _ _ _ _ _ | exact Kd.N_nil _ _ _ _ _ | exact Kd.V_nil _ _ _ _ _ | exact Kd.Q_nil _ _ _ _ _ | exact Kd.S_nil _ _ _ _ _, bZ⟩
end Go.Proofs.YtlbcnflcibmifaaGreatDoor.XT
end
